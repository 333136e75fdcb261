/-
  Lemmas for the walk, merged (Wb Mf Mk Ml Mn Mo Mw Mh Mq Mt Bx Kj Kl Km Kn). No condition but those in each statement.
-/
import Derived.Deep.CutBlock
import Derived.Laws.ResultCell
import Derived.Test.YtnidcmhfbkdioaaSk4
import Derived.Test.YtnidcmhfbkdioaaSk6
import Derived.Test.YtnidcmhfbkdioaaSk12
import Derived.Test.YtnidcmhfbkdioaaSk11
import Derived.Test.YtnidcmhfbkdioaaSk3
namespace Go.Proofs.Ytnidcmhfbkdioaa
/-! ### Wb -/
open Go.RowKit
set_option maxRecDepth 100000
def genN (k : Nat) : ByteArray := if k = 0 then ⟨#[115, 112, 111, 116]⟩ else if k = 1 then ⟨#[108, 105, 102, 101]⟩ else if k = 2 then ⟨#[116, 101, 97, 109]⟩ else ⟨#[103, 111, 97, 108]⟩
def genX (i : Nat) : ByteArray := if i = 0 then ⟨#[120]⟩ else if i = 1 then ⟨#[121]⟩ else ⟨#[122]⟩
structure GenF (f : Fd) : Prop where
  b : (1 ≤ f.bits ∧ f.bits ≤ 9 ∧ -30 ≤ f.low ∧ f.low ≤ 9) ∨ (f.bits = 32 ∧ f.low = -2147483648)
structure GenFs (l : List Fd) : Prop where
  g : ∀ i f, l[i]? = some f → f.nm = genX i ∧ GenF f
structure GenKs (l : List (ByteArray × List Fd)) : Prop where
  g : ∀ i k, l[i]? = some k → k.1 = genN i ∧ 1 ≤ k.2.length ∧ k.2.length ≤ 3 ∧ GenFs k.2
/-- A kind whose fields lie in a block of their type. -/
structure KdT (w : World) (k : Kd) : Prop where
  tr : Tr w 66 3 k.A k.n (fdCs k.fds)
  len : k.n = k.fds.length
  cap : k.n ≤ k.c
  cap2 : k.c ≤ 9223372036854775807
structure KsI (w wr : World) (KA : Option Addr) (k kc : Nat) (ks : List Kd) : Prop where
  len : ks.length = k
  own : wr.ownsRow w.heap.size 63 2 (.slice KA k kc) k (kdCs ks)
  gen : GenKs (ks.map Kd.p)
  ok : ∀ x ∈ ks, KdT wr x
theorem KsI.fq {w wr w' : World} {KA : Option Addr} {k kc s B : Nat} {ks : List Kd} (h : KsI w wr KA k kc ks) (hq : Fq [s] wr w') (hs : StrSt wr B s) : KsI w w' KA k kc ks := by
  obtain ⟨cs, hb⟩ := hs.bk
  refine ⟨h.len, own_keepB h.own fun g hg => hq.low g (h.own.lt g hg).2 fun hgs => ?_, h.gen, fun x hx => ⟨(h.ok x hx).tr.fq hq fun b hbs => ?_, (h.ok x hx).len, (h.ok x hx).cap, (h.ok x hx).cap2⟩⟩
  · obtain ⟨cs', hb'⟩ := own_ty h.own hg
    exact Bk.ne_ hb hb' (by decide) (by simp at hgs; exact hgs.symm)
  · exact ⟨189, cs, by rw [show b = s by simpa using hbs]; exact hb, by decide⟩
theorem GenKs.push {l : List (ByteArray × List Fd)} {k : ByteArray × List Fd} (h : GenKs l) (h1 : k.1 = genN l.length) (h2 : 1 ≤ k.2.length) (h3 : k.2.length ≤ 3) (h4 : GenFs k.2) : GenKs (l ++ [k]) := by
  refine ⟨fun i x hx => ?_⟩
  rcases Nat.lt_or_ge i l.length with hi | hi
  · rw [List.getElem?_append_left hi] at hx
    exact h.g i x hx
  · rw [List.getElem?_append_right hi] at hx
    have e : i - l.length = 0 := by
      rcases Nat.eq_zero_or_pos (i - l.length) with h | h
      · exact h
      · rw [List.getElem?_eq_none (by simp; omega)] at hx; cases hx
    rw [e] at hx
    have ek : k = x := by simpa using hx
    subst ek
    rw [show i = l.length by omega]
    exact ⟨h1, h2, h3, h4⟩
theorem GenFs.push {l : List Fd} {f : Fd} (h : GenFs l) (h1 : f.nm = genX l.length) (h2 : GenF f) : GenFs (l ++ [f]) := by
  refine ⟨fun i x hx => ?_⟩
  rcases Nat.lt_or_ge i l.length with hi | hi
  · rw [List.getElem?_append_left hi] at hx
    exact h.g i x hx
  · rw [List.getElem?_append_right hi] at hx
    have e : i - l.length = 0 := by
      rcases Nat.eq_zero_or_pos (i - l.length) with h | h
      · exact h
      · rw [List.getElem?_eq_none (by simp; omega)] at hx; cases hx
    rw [e] at hx
    have ek : f = x := by simpa using hx
    subst ek
    rw [show i = l.length by omega]
    exact ⟨h1, h2⟩
theorem KsI.push {w wr w' : World} {KA KA' : Option Addr} {k kc kc' : Nat} {ks : List Kd} (h : KsI w wr KA k kc ks) (x : Kd) (hx : KdT wr x) (hn : x.nm = genN k) (h1 : 1 ≤ x.fds.length) (h3 : x.fds.length ≤ 3) (h4 : GenFs x.fds)
    (hown : w'.ownsRow w.heap.size 63 2 (.slice KA' (k + 1) kc') (k + 1) (kdCs ks ++ (#[Value.string x.nm, .slice x.A x.n x.c] : Array Value).toList)) {o : Obj} (hg : (wr.alloc o).grownBy w' (Value.slice KA k kc).ownBlock) : KsI w w' KA' (k + 1) kc' (ks ++ [x]) := by
  have hr : ∀ b, (Value.slice KA k kc).ownBlock = some b → ∃ t cs, Bk (wr.alloc o) b t cs ∧ t ≠ 66 := fun b hb => by
    obtain ⟨cs, hb'⟩ := own_ty h.own hb
    exact ⟨63, cs, hb'.alloc _, by decide⟩
  have ht : ∀ y, KdT wr y → KdT w' y := fun y hy => ⟨(hy.tr.below ((Below.refl _ _).alloc (Nat.le_refl _) o)).grown hg hr, hy.len, hy.cap, hy.cap2⟩
  refine ⟨by simp [h.len], ?_, ?_, fun y hy => ?_⟩
  · have e : kdCs (ks ++ [x]) = kdCs ks ++ (#[Value.string x.nm, .slice x.A x.n x.c] : Array Value).toList := by simp [kdCs, Kd.cs]
    rw [e]; exact hown
  · rw [List.map_append]
    refine h.gen.push ?_ h1 h3 h4
    rw [List.length_map, h.len]; exact hn
  · rcases List.mem_append.1 hy with hy | hy
    · exact ht y (h.ok y hy)
    · rw [show y = x by simpa using hy]; exact ht x hx
theorem KsI.done {w wr : World} {KA : Option Addr} {k kc : Nat} {ks : List Kd} (h : KsI w wr KA k kc ks) : KsOk wr wr.heap.size KA ks.length kc ks := by
  have hr := Rd.of_own h.own
  have hc := own_cap2 h.own
  rw [h.len]
  exact ⟨hr, h.len.symm, hc.1, hc.2, fun x hx => ⟨(h.ok x hx).tr.rd, (h.ok x hx).len, (h.ok x hx).cap, (h.ok x hx).cap2⟩, Nat.le_refl _⟩
theorem Bk.set3 {w : World} {g : Nat} {t : TypeId} {x y z : Value} (h : Bk w g t #[x, y, z]) (a b c : Value) : Bk (((w.setCell ⟨g, 0, none⟩ a).setCell ⟨g, 1, none⟩ b).setCell ⟨g, 2, none⟩ c) g t #[a, b, c] := by
  simpa using ((h.set_ 0 a).set_ 1 b).set_ 2 c
theorem StrSt.mv {w w' : World} {B s n : Nat} (h : StrSt w B s) (hb : Below n w w') (hs : s < n) (hB : B ≤ s) : StrSt w' B s := by
  obtain ⟨A, m, c, zs, h1, h2, h3, h4, h5, h6⟩ := h
  exact ⟨A, m, c, zs, h1.below hb hs, h2, h3, h4, h5.below (hb.mono (by omega)), h6⟩
theorem Bk.two (w : World) (o : Obj) (t : TypeId) (cs : Array Value) : Bk ((w.alloc o).alloc (.cells cs t)) (w.heap.size + 1) t cs := by simpa using Bk.new (w.alloc o) t cs
/-! ### Mf -/
def idxF {α : Type} (p : α → Bool) : List α → Int
  | [] => -1
  | a :: l => if p a = true then 0 else if idxF p l < 0 then -1 else idxF p l + 1
theorem idxF_none {α : Type} {p : α → Bool} {l : List α} (h : ∀ (j : Nat) (y : α), l[j]? = some y → p y = false) : idxF p l = -1 := by
  induction l with
  | nil => rfl
  | cons a l ih =>
    unfold idxF
    rw [if_neg (by rw [h 0 a rfl]; simp), ih fun j y hy => h (j + 1) y (by simpa using hy)]; rfl
theorem idxF_hit {α : Type} {p : α → Bool} {l : List α} {k : Nat} {x : α} (hx : l[k]? = some x) (hp : p x = true) (h : ∀ (j : Nat) (y : α), j < k → l[j]? = some y → p y = false) : idxF p l = (k : Int) := by
  induction l generalizing k with
  | nil => simp at hx
  | cons a l ih =>
    unfold idxF
    cases k with
    | zero =>
      have e : a = x := by simpa using hx
      rw [e, if_pos hp]; rfl
    | succ k =>
      have e := ih (k := k) (by simpa using hx) fun j y hj hy => h (j + 1) y (by omega) (by simpa using hy)
      rw [if_neg (by rw [h 0 a (by omega) rfl]; simp), e, if_neg (by omega)]; omega
/-! ### Mk -/
section
variable {P : Program}
/-- 'append(s, x)', ONE element, as one step of a region that draws. -/
theorem step_append_one {ops : Array Oper} {o : Oper} {a : Act} {w : World} {K : Act → World → Prop} {Q : Exit → Act → World → Prop} {E : Prop} (hgd : o.guard = none) (s x : Operand) (t : TypeId)
    (ho : o.op = .call { callee := .builtin .append, args := #[s, x], argTypes := #[t, t] })
    (base : Nat) (e : TypeId) (i : TypeInfo) (z : Value) (size bytes : Nat) (ht : P.underlying t = some (.slice e)) (hi : P.info? e = some i) (hz : i.zero = some z)
    (hsize : i.size = size) (hby : i.bytes = bytes) (hzs : z.cells.size = size) (hsz : 0 < size)
    (v : Value) (n : Nat) (xs : List Value) (hs : a.eval s = v) (hown : w.ownsRow base e size v n xs)
    (b c : Nat) (t' : TypeId) (cs : Array Value) (hx : a.eval x = .slice (some ⟨b, 0, none⟩) 1 c) (hr : Bk w b t' cs) (hcs : cs.size = size) (h1 : ∀ u ∈ cs.toList, u.oneCell' = true)
    (n' : Nat) (hn' : n' = n + 1) (h63 : n' ≤ maxLen) (hbytes : n' * bytes ≤ 140737488355328) (hbase : base ≤ w.heap.size)
    (h : ∀ g' c' w', w'.ownsRow base e size (.slice (some ⟨g', 0, none⟩) n' c') n' (xs ++ cs.toList) → w.grownBy w' v.ownBlock → (v.ownBlock = some g' ∨ g' = w.heap.size) → K (a.put o.dst (.slice (some ⟨g', 0, none⟩) n' c')) w') :
    if Region.wanted o (yielded ops a.tmps) = true then Oper.wp P o a w K Q else E := by
  have hw : Region.wanted o (yielded ops a.tmps) = true := by simp [Region.wanted, hgd]
  rw [if_pos hw]
  subst hn'
  have hrd : Rd w w.heap.size size (some ⟨b, 0, none⟩) 1 cs.toList :=
    ⟨by simp [hcs], fun _ => ⟨_, _, rfl, hr.lt, fun j u hu => by
      rw [Nat.zero_add]
      exact (hr.cell j).trans (by simpa using hu)⟩⟩
  refine wp_append_rd w s x t ho base e i z size bytes ht hi hz hsize hby hzs hsz v n xs hs hown _ _ 1 c _ hx hrd h1 h63 hbytes hbase fun A' c' w' h2 h3 h4 => ?_
  obtain ⟨g, cap, hv, _, hlt⟩ := h2.form (by omega)
  have hA : A' = some ⟨g, 0, none⟩ := by injection hv
  subst hA
  refine h g c' w' h2 h3 ?_
  rcases h4 with h4 | h4
  · exact .inl (by rw [← h4]; rfl)
  · exact .inr (by simpa [Value.ownBlock] using h4)
end
/-! ### Ml -/
theorem results_c1 {fn : Func} {p : Tmp} {ty : TypeId} (h : fn.results = #[.cell p ty]) (tmps : Array Value) (P : Program) (w : World) :
    (results fn tmps).run P w = ((asAddr (tmps.getD p undef)).run P w).andThen fun a w₁ => (loadVar ty a).run P w₁ := by
  simp only [results, h]
  simp [Sem.run_bind, Result.andThen]
theorem Below.al {w w' : World} (h : Below w.heap.size w w') (o : Obj) : Below w.heap.size w (w'.alloc o) := h.alloc h.size o
theorem Below.tr {w w' w2 : World} (h : Below w.heap.size w w') (k : Below w'.heap.size w' w2) : Below w.heap.size w w2 := h.trans (k.mono h.size)
theorem Kx.set3 {w w' : World} {B g : Nat} {F : List TypeId} {t : TypeId} {cs : Array Value} (h : Kx B F w w') (hg : Bk w' g t cs) (hB : B ≤ g) (ht : t ∈ F) (i j k : Nat) (a b c : Value) : Kx B F w (((w'.setCell ⟨g, i, none⟩ a).setCell ⟨g, j, none⟩ b).setCell ⟨g, k, none⟩ c) :=
  ((h.set hg hB ht i a).set (hg.set_ i a) hB ht j b).set ((hg.set_ i a).set_ j b) hB ht k c
theorem Fill.of_bk {w : World} {g n size : Nat} {t : TypeId} {cs : Array Value} (h : Bk w g t cs) (hs : cs.size = n * size) : Fill w g t size n 0 [] := ⟨cs, h, hs, by simp⟩
theorem T.infoIt : (Try.prog.info? 147).map (fun i => (i.zero, i.size, i.bytes)) = some (some (.agg #[.int .i64 0, .int .i64 0, .slice none 0 0]), 3, 40) := by kernel_rfl
theorem GsY.own {w : World} {B base n c : Nat} {A : Option Addr} {l : List Int} (h : w.ownsRow base 3 1 (.slice A n c) n (l.map (Value.int .i64))) (hw : ∀ g ∈ l, (Lit.int .i64 g).wf = true) : GsY w B A n c l := by
  have hc := own_cap2 h
  refine ⟨.of_own h, ?_, hc.1, hc.2, hw⟩
  have := h.1
  simpa using this.symm
/-! ### Mn -/
def clC (c : Cl) : List Value := [.int .i64 c.1, .int .i64 c.2.1, .int .i64 c.2.2.1, .int .i64 c.2.2.2]
def clCs (l : List Cl) : List Value := l.flatMap clC
structure MgSt (w : World) (base m : Nat) (l : List Cl) : Prop where
  ex : ∃ A c, Bk w m 198 #[.slice A l.length c] ∧ w.ownsRow base 73 4 (.slice A l.length c) l.length (clCs l)
theorem MgSt.lt {w : World} {base m : Nat} {l : List Cl} (h : MgSt w base m l) : m < w.heap.size := by
  obtain ⟨A, c, h1, _⟩ := h.ex
  exact h1.lt
theorem MgSt.below {w w' : World} {base m : Nat} {l : List Cl} (h : MgSt w base m l) (hb : Below w.heap.size w w') : MgSt w' base m l := by
  obtain ⟨A, c, h1, h2⟩ := h.ex
  exact ⟨A, c, h1.below hb h1.lt, (Kx.of_below (B := 0) (F := []) hb).own h2 (by simp)⟩
theorem MgSt.kx {w w' : World} {B base m : Nat} {l : List Cl} {F : List TypeId} (h : MgSt w base m l) (hq : Kx B F w w') (h1 : (198 : TypeId) ∉ F) (h2 : (73 : TypeId) ∉ F) : MgSt w' base m l := by
  obtain ⟨A, c, h3, h4⟩ := h.ex
  exact ⟨A, c, hq.bk h3 h1, hq.own h4 h2⟩
/-- A list in a block of the call's own. -/
def OutI (w : World) (base : Nat) (A : Option Addr) (n : Nat) (xs : List Int) : Prop :=
  xs.length = n ∧ (0 < n → ∃ g N, A = some ⟨g, 0, none⟩ ∧ base ≤ g ∧ n ≤ N ∧ Fill w g 3 1 N n (xs.map (Value.int .i64)))
theorem OutI.of_own {w : World} {base n c : Nat} {A : Option Addr} {xs : List Int} (h : w.ownsRow base 3 1 (.slice A n c) n (xs.map (Value.int .i64))) : OutI w base A n xs := by
  refine ⟨by have := h.1; simpa using this, fun hn => ?_⟩
  rcases h.2 with ⟨_, h0⟩ | ⟨g, cap, cur, hv, hb, hh, h1, _, hs, ht⟩
  · omega
  · injection hv with hA _ _
    exact ⟨g, cap, hA, hb, h1, ⟨cur, hh, hs, ht⟩⟩
theorem OutI.keep {w w' : World} {B base n : Nat} {A : Option Addr} {xs : List Int} {F : List TypeId} (h : OutI w base A n xs) (hq : Kx B F w w') (h3 : (3 : TypeId) ∉ F) : OutI w' base A n xs :=
  ⟨h.1, fun hn => by
    obtain ⟨g, N, h1, h2, h4, h5⟩ := h.2 hn
    exact ⟨g, N, h1, h2, h4, h5.keep hq h3⟩⟩
theorem OutI.rd {w : World} {B base n : Nat} {A : Option Addr} {xs : List Int} (h : OutI w base A n xs) : RdY w B 3 1 A n (xs.map (Value.int .i64)) := by
  refine ⟨by simp [h.1], fun hn => ?_⟩
  obtain ⟨g, N, h1, _, _, cs, h3, h4, h5⟩ := h.2 hn
  refine ⟨g, 0, h1, h3.lt, .inr ⟨cs, h3⟩, fun j u hu => (h3.cell _).trans ?_⟩
  rw [← h5, List.getElem?_take] at hu
  split at hu
  · rw [Nat.zero_add]; simpa using hu
  · cases hu
theorem OutI.set {w : World} {base n g N k : Nat} {xs : List Int} (h1 : xs.length = n) (hb : base ≤ g) (hn : n ≤ N) (hf : Fill w g 3 1 N n (xs.map (Value.int .i64))) (_hk : k < n) (v : Int) : OutI (w.setCell ⟨g, k, none⟩ (.int .i64 v)) base (some ⟨g, 0, none⟩) n (xs.set k v) := by
  refine ⟨by simp [h1], fun _ => ⟨g, N, rfl, hb, hn, ?_⟩⟩
  obtain ⟨cs, h3, h4, h5⟩ := hf
  refine ⟨_, h3.set_ k (.int .i64 v), by simp [h4], ?_⟩
  rw [Array.toList_setIfInBounds, List.take_set, h5, List.map_set]
/-! ### Mo -/
theorem own_far {w : World} {base size n g : Nat} {e t : TypeId} {v : Value} {xs : List Value} {cs : Array Value} (h : w.ownsRow base e size v n xs) (hg : Bk w g t cs) (hne : e ≠ t) (i : Nat) (u : Value) :
    (w.setCell ⟨g, i, none⟩ u).ownsRow base e size v n xs :=
  (Kx.set (B := 0) (F := [t]) Kx.refl hg (Nat.zero_le _) (by simp) i u).own h (by simp [hne])
/-- The values of components lie below B, or in blocks from h on. -/
def Fr (h B : Nat) (l : List Cm) : Prop := ∀ z ∈ l, 0 < z.n → ∀ b o, z.A = some ⟨b, o, none⟩ → b < B ∨ h ≤ b
theorem Fr.mono {h h' B : Nat} {l : List Cm} (H : Fr h B l) (hh : h' ≤ h) : Fr h' B l := fun z hz hn b o hA => (H z hz hn b o hA).imp id fun h2 => Nat.le_trans hh h2
/-- The frame of merger.comps. -/
structure CI (h : Nat) (wr : World) (B : Nat) (o x y : It) (A : Option Addr) (n c : Nat) (l1 : List Cm) : Prop where
  b0 : Bk wr h 147 #[.int .i64 o.e, .int .i64 o.g, .slice o.A o.n o.c]
  b1 : Bk wr (h + 1) 147 #[.int .i64 x.e, .int .i64 x.g, .slice x.A x.n x.c]
  b2 : Bk wr (h + 2) 147 #[.int .i64 y.e, .int .i64 y.g, .slice y.A y.n y.c]
  b3 : Bk wr (h + 3) 147 #[.int .i64 0, .int .i64 0, .slice none 0 0]
  b4 : Bk wr (h + 4) 147 #[.int .i64 x.e, .int .i64 x.g, .slice A n c]
  own : wr.ownsRow h 166 2 (.slice A n c) n (cmCs l1)
  len : n = l1.length
  ok : ∀ z ∈ l1, CmY wr B z
  fr : Fr h B l1
theorem CI.kx {h : Nat} {wr w' : World} {B B' : Nat} {o x y : It} {A : Option Addr} {n c : Nat} {l1 : List Cm} {F : List TypeId} (H : CI h wr B o x y A n c l1) (hq : Kx B' F wr w') (hB : B ≤ B') (h147 : (147 : TypeId) ∉ F) (h166 : (166 : TypeId) ∉ F) (h3 : (3 : TypeId) ∉ F) : CI h w' B o x y A n c l1 :=
  ⟨hq.bk H.b0 h147, hq.bk H.b1 h147, hq.bk H.b2 h147, hq.bk H.b3 h147, hq.bk H.b4 h147, hq.own H.own h166, H.len, fun z hz => (H.ok z hz).keep (hq.mono hB (fun _ h => h)) h3, H.fr⟩
theorem CI.below {h : Nat} {wr w' : World} {B : Nat} {o x y : It} {A : Option Addr} {n c : Nat} {l1 : List Cm} (H : CI h wr B o x y A n c l1) (hb : Below wr.heap.size wr w') : CI h w' B o x y A n c l1 := H.kx (F := []) (Kx.of_below (B := B) hb) (Nat.le_refl _) (by simp) (by simp) (by simp)
theorem wf_i64 {n : Int} (h1 : -9223372036854775808 ≤ n) (h2 : n ≤ 9223372036854775807) : (Lit.int .i64 n).wf = true := by
  simp [Lit.wf, IntKind.min, IntKind.max, IntKind.signed, IntKind.bits]
  omega
/-! ### Mw -/
def holdK (d : Kp2) (v : List Int) : Bool := holdsF d.1 d.2 v
def itOne (ks : List Kp2) (gens : List Int) (last : Int) (it : Iv) : Bool :=
  decide (last < it.1.1) && (decide (gens[it.1.1.toNat]? = some it.1.2) && (decide (it.1.2 ≠ 1073741824) && heldF ks (-1) it.2))
def itChk (ks : List Kp2) (gens : List Int) : Int → List Iv → Bool
  | _, [] => true
  | last, it :: r => itOne ks gens last it && itChk ks gens it.1.1 r
def genOk (g : Int) : Bool := decide (0 ≤ g) && decide (g ≤ 1073741824)
def wcheckF (w : Wv Kp2) : Int :=
  if checkF w.ks ≠ 0 then checkF w.ks else if 256 < w.gens.length ∨ w.gens.length < w.its.length then 2 else
  if w.gens.all genOk = true then (if itChk w.ks w.gens (-1) w.its = true then 0 else 3) else 3
theorem heldF_iff {ks : List Kp2} {l : List Cv} {last : Int} (h0 : -1 ≤ last) : heldF ks last l = true ↔ (∀ c ∈ l, last < c.1) ∧ VCs holdK ks l := by
  induction l generalizing last with
  | nil => exact ⟨fun _ => ⟨(fun c hc => by cases hc), ⟨List.Pairwise.nil, (fun c hc => by cases hc)⟩⟩, fun _ => rfl⟩
  | cons x l ih =>
    have e : heldF ks last (x :: l) = (heldOne ks last x && heldF ks x.1 l) := rfl
    rw [e, Bool.and_eq_true]
    constructor
    · rintro ⟨h1, h2⟩
      unfold heldOne at h1
      rw [Bool.and_eq_true] at h1
      have hlt : last < x.1 := by simpa using h1.1
      obtain ⟨h3, h4⟩ := (ih (by omega)).1 h2
      obtain ⟨k, hk⟩ : ∃ k : Nat, x.1 = k := ⟨x.1.toNat, by omega⟩
      have hx : ∃ d, ks[k]? = some d ∧ holdK d x.2 = true := by
        have h5 := h1.2
        rw [hk, Int.toNat_natCast] at h5
        cases hd : ks[k]? with
        | none => rw [hd] at h5; cases h5
        | some d => rw [hd] at h5; exact ⟨d, rfl, h5⟩
      refine ⟨fun c hc => ?_, ⟨List.Pairwise.cons h3 h4.sorted, fun c hc => ?_⟩⟩
      · rcases List.mem_cons.1 hc with rfl | hc
        · exact hlt
        · have := h3 c hc; omega
      · rcases List.mem_cons.1 hc with rfl | hc
        · obtain ⟨d, h6, h7⟩ := hx
          exact ⟨k, d, hk, h6, h7⟩
        · exact h4.ok c hc
    · rintro ⟨h1, h2⟩
      have hlt := h1 x (List.mem_cons_self ..)
      obtain ⟨k, d, hk, h6, h7⟩ := h2.ok x (List.mem_cons_self ..)
      obtain ⟨h8, h9⟩ := List.pairwise_cons.1 h2.sorted
      refine ⟨?_, (ih (by omega)).2 ⟨h8, ⟨h9, fun c hc => h2.ok c (List.mem_cons_of_mem _ hc)⟩⟩⟩
      unfold heldOne
      rw [decide_eq_true hlt, hk, Int.toNat_natCast, h6]
      exact h7
theorem itChk_iff {ks : List Kp2} {gens : List Int} {l : List Iv} {last : Int} (h0 : -1 ≤ last) :
    itChk ks gens last l = true ↔ (∀ c ∈ l, last < c.1.1) ∧ (l.Pairwise fun a b => a.1.1 < b.1.1) ∧ ∀ it ∈ l, (∃ n : Nat, it.1.1 = n ∧ gens[n]? = some it.1.2) ∧ it.1.2 ≠ 1073741824 ∧ VCs holdK ks it.2 := by
  induction l generalizing last with
  | nil => exact ⟨fun _ => ⟨(fun c hc => by cases hc), List.Pairwise.nil, (fun c hc => by cases hc)⟩, fun _ => rfl⟩
  | cons x l ih =>
    have e : itChk ks gens last (x :: l) = (itOne ks gens last x && itChk ks gens x.1.1 l) := rfl
    have e2 : itOne ks gens last x = true ↔ last < x.1.1 ∧ gens[x.1.1.toNat]? = some x.1.2 ∧ x.1.2 ≠ 1073741824 ∧ heldF ks (-1) x.2 = true := by
      unfold itOne
      simp only [Bool.and_eq_true, decide_eq_true_eq]
    rw [e, Bool.and_eq_true, e2]
    constructor
    · rintro ⟨⟨hlt, hg, hm, hh⟩, h2⟩
      obtain ⟨h3, h4, h5⟩ := (ih (by omega)).1 h2
      obtain ⟨k, hk⟩ : ∃ k : Nat, x.1.1 = k := ⟨x.1.1.toNat, by omega⟩
      rw [hk, Int.toNat_natCast] at hg
      refine ⟨fun c hc => ?_, List.Pairwise.cons h3 h4, fun c hc => ?_⟩
      · rcases List.mem_cons.1 hc with rfl | hc
        · exact hlt
        · have := h3 c hc; omega
      · rcases List.mem_cons.1 hc with rfl | hc
        · exact ⟨⟨k, hk, hg⟩, hm, ((heldF_iff (by omega)).1 hh).2⟩
        · exact h5 c hc
    · rintro ⟨h1, h2, h3⟩
      have hlt := h1 x (List.mem_cons_self ..)
      obtain ⟨⟨k, hk, hg⟩, hm, hc⟩ := h3 x (List.mem_cons_self ..)
      obtain ⟨h8, h9⟩ := List.pairwise_cons.1 h2
      refine ⟨⟨hlt, by rw [hk, Int.toNat_natCast]; exact hg, hm, (heldF_iff (by omega)).2 ⟨fun c hcc => ?_, hc⟩⟩, (ih (by omega)).2 ⟨h8, h9, fun c hc => h3 c (List.mem_cons_of_mem _ hc)⟩⟩
      obtain ⟨j, _, e3, _⟩ := hc.ok c hcc
      omega
theorem flat_len {α : Type} (f : Nat → List α) (K : Nat) (h : ∀ n, (f n).length ≤ 1) : ((List.range K).flatMap f).length ≤ K := by
  induction K with
  | zero => simp
  | succ K ih =>
    rw [List.range_succ, List.flatMap_append, List.length_append]
    have := h K
    simp only [List.flatMap_cons, List.flatMap_nil, List.append_nil]
    omega
theorem VW.its_len {κ : Type} {hold : κ → List Int → Bool} {w : Wv κ} (h : VW hold w) : w.its.length ≤ w.gens.length := by
  have e := rebuild (fun c : Iv => c.1.1) w.gens.length w.its h.sorted h.key
  rw [← e]
  exact flat_len _ _ fun n => by cases (w.its.find? fun c => decide (c.1.1 = (n : Int))) <;> simp
theorem vw_of {w : Wv Kp2} (h : wcheckF w = 0) : checkF w.ks = 0 ∧ VW holdK w := by
  unfold wcheckF at h
  by_cases h0 : checkF w.ks ≠ 0
  · rw [if_pos h0] at h; exact absurd h h0
  · rw [if_neg h0] at h
    by_cases h1 : 256 < w.gens.length ∨ w.gens.length < w.its.length
    · rw [if_pos h1] at h; cases h
    · rw [if_neg h1] at h
      by_cases h2 : w.gens.all genOk = true
      · rw [if_pos h2] at h
        by_cases h3 : itChk w.ks w.gens (-1) w.its = true
        · obtain ⟨_, a, b⟩ := (itChk_iff (by omega)).1 h3
          refine ⟨by omega, ⟨by omega, fun g hg => ?_, a, b⟩⟩
          have := List.all_eq_true.1 h2 g hg
          unfold genOk at this
          simp only [Bool.and_eq_true, decide_eq_true_eq] at this
          exact this
        · rw [if_neg h3] at h; cases h
      · rw [if_neg h2] at h; cases h
theorem holdK_iff {d : Kp2} {v : List Int} : holdK d v = true ↔ oneF d.1 d.2 = 0 ∧ v.length = d.2.length ∧ ∀ i f, d.2[i]? = some f → nearF f (v.getD i 0) = v.getD i 0 := by
  unfold holdK holdsF
  simp only [Bool.and_eq_true, decide_eq_true_eq]
  unfold fitF
  by_cases h0 : oneF d.1 d.2 = 0
  · rw [if_neg (by simp [h0])]
    by_cases h1 : v.length = d.2.length
    · rw [if_neg (by simp [h1])]
      constructor
      · rintro ⟨_, h⟩
        refine ⟨h0, h1, fun i f hf => ?_⟩
        have hi : i < d.2.length := (List.getElem?_eq_some_iff.1 hf).1
        have hv : v[i]? = some (v.getD i 0) := by simp [List.getD, List.getElem?_eq_getElem (show i < v.length by omega)]
        have := zipF_at hf hv
        rw [show zipF d.2 v = v from h, hv] at this
        injection this with this
        exact this.symm
      · rintro ⟨_, _, h⟩
        refine ⟨rfl, List.ext_getElem? fun i => ?_⟩
        by_cases hi : i < d.2.length
        · have hf : d.2[i]? = some d.2[i] := List.getElem?_eq_getElem hi
          have hv : v[i]? = some (v.getD i 0) := by simp [List.getD, List.getElem?_eq_getElem (show i < v.length by omega)]
          show (zipF d.2 v)[i]? = _
          rw [zipF_at hf hv, h i _ hf, hv]
        · rw [List.getElem?_eq_none (by unfold zipF; rw [List.length_zipWith]; omega), List.getElem?_eq_none (by omega)]
    · rw [if_pos h1]
      exact ⟨(fun h => by cases h.1), fun h => absurd h.2.1 h1⟩
  · rw [if_pos h0]
    exact ⟨fun h => absurd h.1 h0, fun h => absurd h.1 h0⟩
/-! ### Mh -/
/-- A field of a valid kind. -/
theorem scan_ok {r : List Fd} : ∀ {seen : List Fd}, scanF seen r = 0 → ∀ f ∈ r, fieldF f = 0 := by
  induction r with
  | nil => intro _ _ f hf; cases hf
  | cons a r ih =>
    intro seen h f hf
    rw [scanF_at] at h
    by_cases h0 : fieldF a ≠ 0
    · rw [if_pos h0] at h; exact absurd h h0
    · rw [if_neg h0] at h
      split at h
      · cases h
      · rcases List.mem_cons.1 hf with rfl | hf
        · omega
        · exact ih h f hf
theorem one_ok {nm : ByteArray} {fds : List Fd} (h : oneF nm fds = 0) {f : Fd} (hf : f ∈ fds) : fieldF f = 0 := by
  unfold oneF at h
  split at h
  · cases h
  · split at h
    · cases h
    · exact scan_ok h f hf
theorem near_in {f : Fd} (h : fieldF f = 0) {v : Int} (h1 : f.low ≤ v) (h2 : v < f.low + 2 ^ f.bits.toNat) : nearF f v = v := by
  unfold nearF highF
  rw [if_pos h, if_pos h]
  omega
/-- Values that have been drawn so far. -/
theorem hold_of {d : Kp2} {v : List Int} (h : oneF d.1 d.2 = 0) (hl : v.length = d.2.length) (hv : ∀ i f, d.2[i]? = some f → f.low ≤ v.getD i 0 ∧ v.getD i 0 < f.low + 2 ^ f.bits.toNat) : holdK d v = true :=
  holdK_iff.2 ⟨h, hl, fun i f hf => near_in (one_ok h (List.mem_of_getElem? hf)) (hv i f hf).1 (hv i f hf).2⟩
/-! ### Mq -/
/-- No values of the components lie in block g. -/
def NoB (g : Option Nat) (l : List Cm) : Prop := ∀ z ∈ l, 0 < z.n → ∀ b o, z.A = some ⟨b, o, none⟩ → some b ≠ g
theorem NoB.of_fr {h B : Nat} {l : List Cm} {g : Option Nat} (H : Fr h B l) (hg : ∀ q, g = some q → B ≤ q ∧ q < h) : NoB g l := fun z hz hn b o hA e => by
  obtain ⟨h1, h2⟩ := hg b e.symm
  rcases H z hz hn b o hA with h3 | h3 <;> omega
theorem NoB.grown {w : World} {B : Nat} {it : It} {g g' : Option Nat} (h : ItY w B it) (hn : NoB g it.cms) (hg : g' = g ∨ g' = some w.heap.size) : NoB g' it.cms := fun z hz hzn b o hA => by
  rcases hg with rfl | rfl
  · exact hn z hz hzn b o hA
  · obtain ⟨b', o', hA', hlt, _⟩ := (h.cs.ok z hz).rd.2 hzn
    rw [hA] at hA'
    injection hA' with hA'
    injection hA' with h1
    intro e
    injection e with e
    omega
theorem ItY.grown3 {w w' : World} {B base n : Nat} {v : Value} {xs : List Value} {it : It} (h : ItY w B it) (ho : w.ownsRow base 3 1 v n xs) (hg : w.grownBy w' v.ownBlock) (hB : B ≤ base) (hno : NoB v.ownBlock it.cms) : ItY w' B it := by
  have hkx : Kx B [3] w w' := Kx.refl.grown ho hg hB (by simp)
  refine ⟨⟨h.cs.rd.keep hkx (by decide), h.cs.len, h.cs.cap, h.cs.cap2, fun z hz => ?_⟩, h.wf1, h.wf2⟩
  have hz' := h.cs.ok z hz
  refine ⟨⟨hz'.rd.1, fun hn => ?_⟩, hz'.len, hz'.cap, hz'.cap2, hz'.wf⟩
  obtain ⟨b, o, hA, hlt, h3, h4⟩ := hz'.rd.2 hn
  have hne : some b ≠ v.ownBlock := hno z hz hn b o hA
  have hb := hg.block b hlt hne
  exact ⟨b, o, hA, by have := hg.size; omega, h3.imp id fun ⟨cs, hc⟩ => ⟨cs, hb.trans hc⟩, fun j u hu => (World.cell?_of_block (w := w) hb).trans (h4 j u hu)⟩
theorem IsY.of_own {w : World} {B base q c : Nat} {A : Option Addr} {its : List It} (h : w.ownsRow base 147 3 (.slice A q c) q (itCs its)) (hl : q = its.length) (hi : ∀ it ∈ its, ItY w B it) : IsY w B A q c its := by
  have hc := own_cap2 h
  exact ⟨.of_own h, hl, hc.1, hc.2, hi⟩
theorem itCs_snoc (l : List It) (x : It) : itCs (l ++ [x]) = itCs l ++ [.int .i64 x.e, .int .i64 x.g, .slice x.A x.n x.c] := by simp [itCs, It.cs]
/-! ### The merged world slot by slot -/
/-! ### Mt -/
theorem Kx.fq {w w' : World} {B B' s : Nat} (h : Fq [s] w w') (hs : StrSt w B s) (hB : B' ≤ s) : Kx B' [189] w w' := by
  obtain ⟨cs, hk⟩ := hs.bk
  refine ⟨h.size, fun b h1 h2 => h.low b h2 (by simp; omega), fun b t cs' h1 h2 => (h.low b h1.lt fun hb => ?_).trans h1⟩
  have e : b = s := by simpa using hb
  subst e
  exact Bk.ne_ h1 hk (fun e => h2 (by rw [e]; simp)) rfl
theorem StrSt.kx {w w' : World} {B B' s : Nat} {F : List TypeId} (h : StrSt w B s) (hq : Kx B' F w w') (hB : B ≤ B') (hw : B ≤ w.heap.size) (hF : (189 : TypeId) ∉ F) : StrSt w' B s := by
  obtain ⟨A, n, c, zs, h1, h2, h3, h4, h5, h6⟩ := h
  exact ⟨A, n, c, zs, hq.bk h1 hF, h2, h3, h4, h5.keep fun b hb => hq.low b (by omega) (by omega), h6⟩
theorem StrSt.lo {w : World} {B s : Nat} (h : StrSt w B s) (hB : B ≤ s) : B ≤ w.heap.size := by
  obtain ⟨cs, hk⟩ := h.bk
  have := hk.lt
  omega
theorem wrap_small {x : Int} (h1 : -9223372036854775808 ≤ x) (h2 : x ≤ 9223372036854775807) : wrap64 x = x := by unfold wrap64; omega
theorem wrap_small2 {x : Int} (h1 : -9223372036854775808 ≤ x) (h2 : x ≤ 9223372036854775807) : IntKind.i64.wrap x = x := by rw [IntKind.wrap_i64]; omega
theorem mk_range {fds : List Fd} {vs : List Int} {j bt : Nat} {lo v M : Int} {f : Fd} (hl : vs.length = j) (h : ∀ t f, t < j → fds[t]? = some f → f.low ≤ vs.getD t 0 ∧ vs.getD t 0 < f.low + 2 ^ f.bits.toNat) (hf : fds[j]? = some f) (hb : f.bits = bt) (hlo : f.low = lo) (hM : M = (2 : Int) ^ bt) (h0 : 0 ≤ v) (h1 : v < M) :
    ∀ t f, t < j + 1 → fds[t]? = some f → f.low ≤ (vs ++ [lo + v]).getD t 0 ∧ (vs ++ [lo + v]).getD t 0 < f.low + 2 ^ f.bits.toNat := by
  intro t g ht hg
  by_cases htj : t < j
  · have := h t g htj hg
    have e : (vs ++ [lo + v]).getD t 0 = vs.getD t 0 := by simp only [List.getD]; rw [List.getElem?_append_left (by omega)]
    rw [e]; exact this
  · have htj : t = j := by omega
    subst htj
    rw [hf] at hg
    injection hg with hg
    subst hg
    have e : (vs ++ [lo + v]).getD t 0 = lo + v := by rw [← hl]; simp [List.getD]
    rw [e, hlo, hb, Int.toNat_natCast, ← hM]
    constructor <;> omega
set_option maxHeartbeats 8000000 in
theorem mkcomps_any (s B : Nat) (A : Option Addr) (n c : Nat) (ks : List Kd) (w : World) (hst : StrSt w B s) (hB : B ≤ s) (hk : KsY w B A n c ks) (hone : ∀ k ∈ ks, oneF k.nm k.fds = 0) (hn : n ≤ 16) :
    Calls Try.prog 102 #[.slice A n c, .pointer (some ⟨s, 0, none⟩)] w fun e w' => ∃ (CA : Option Addr) (cc : Nat) (l : List Cm), e = .returned (.slice CA l.length cc) ∧ Hid (CsY w' 0 CA l.length cc l ∧ VCs holdK (ks.map Kd.p) (l.map Cm.p) ∧ Fr w.heap.size 0 l) ∧ StrSt w' B s ∧ Fq [s] w w' := by
  have HST := Lib.hid hst
  have HNX := Lib.hid next_any
  have HK := Lib.hid hk
  have HON := Lib.hid hone
  have hcap := hk.cap
  have hcap2 := hk.cap2
  have hsl : s < w.heap.size := by obtain ⟨cs, h⟩ := hst.bk; exact h.lt
  obtain ⟨i1, hi1, hz10, hz11, hz12⟩ := info_parts T.infoCm
  obtain ⟨i3, hi3, hz30, hz31, hz32⟩ := info_parts T.info3
  clear hst hk hone
  go_enter Try.func102, Try.ntmps102
  go_wp2_with fail
  go_loopw [5, 13] (fun ov iv wr => ∃ (i q oc : Nat) (OA : Option Addr) (l1 : List Cm), i ≤ n ∧ q ≤ i ∧ iv = .int .i64 i ∧ ov = .slice OA q oc ∧ Hid (wr.ownsRow w.heap.size 166 2 (.slice OA q oc) q (cmCs l1) ∧ q = l1.length ∧ (∀ z ∈ l1, CmY wr 0 z) ∧ CwI holdK (ks.map Kd.p) i (l1.map Cm.p) ∧ Fr w.heap.size 0 l1) ∧ Hid (StrSt wr B s) ∧ Hid (Fq [s] w wr)) (fun _ iv _ => n - (intOf iv).toNat)
  case atStart => exact ⟨0, 0, 0, none, [], Nat.zero_le _, Nat.le_refl _, rfl, rfl, Lib.hid ⟨World.ownsRow_nil _ _ _ _, rfl, (fun z hz => by cases hz), CwI.zero, (fun z hz => by cases hz)⟩, HST, Lib.hid Fq.refl⟩
  case round =>
    obtain ⟨i, q, oc, OA, l1, hi, hqi, rfl, rfl, HL, HS, HQ⟩ := hrel
    obtain ⟨wo, rfl⟩ : ∃ x, x = wr := ⟨_, rfl⟩
    by_cases hlt : i < n
    · have hiz : (i : Int) < n := by omega
      obtain ⟨k, hk⟩ : ∃ k, ks[i]? = some k := ⟨_, List.getElem?_eq_getElem (by have := HK.out.len; omega)⟩
      have hkx := Kx.fq (B' := B) HQ.out HST.out hB
      have hky := HK.out.keep hkx (by decide) (by decide)
      have hko := hky.ok k (List.mem_of_getElem? hk)
      obtain ⟨b, o, rfl, hbb, q0, q1⟩ := hky.rd.rd.kd hlt hk
      have hwsz : w.heap.size ≤ wo.heap.size := HQ.out.size
      obtain ⟨w1, hw1⟩ : ∃ w1, w1 = wo.alloc (.cells #[.string k.nm, .slice k.A k.n k.c] 63) := ⟨_, rfl⟩
      have HK1 : Hid (Bk w1 wo.heap.size 63 #[.string k.nm, .slice k.A k.n k.c]) := Lib.hid (by rw [hw1]; exact Bk.new _ _ _)
      have HB1 : Hid (Below wo.heap.size wo w1) := Lib.hid (by rw [hw1]; exact (Below.refl _ _).alloc (Nat.le_refl _) _)
      have HS1 : Hid (StrSt w1 B s) := Lib.hid (HS.out.below HB1.out (HS.out.lo hB))
      have HKO := Lib.hid hko
      have HKK := Lib.hid hk
      have hkcap := hko.cap
      have hkcap2 := hko.cap2
      clear hk hkx hky hko
      generalize hknm : k.nm = knm at *
      generalize hkA : k.A = kA at *
      generalize hkn : k.n = kn at *
      generalize hkc : k.c = kc at *
      have HKV := Lib.hid (And.intro hknm (And.intro hkA (And.intro hkn hkc)))
      clear hknm hkA hkn hkc
      go_wp2_with fail
      rw [← hw1]
      clear hw1 q0 q1
      (with_reducible refine (HNX.out s B 3 _ HS1.out hB (by omega) (by omega)).mono ?_)
      rintro e w2 ⟨v, rfl, hv0, hv1, hst2, hg2⟩
      have hxs : wo.heap.size ≠ s := by omega
      have hk2 : Bk w2 wo.heap.size 63 #[.string knm, .slice kA kn kc] := HK1.out.grown hg2 (fun e => by injection e with e; omega)
      have HQ2 : Hid (Fq [s] wo w2) := Lib.hid ((Fq.of_below HB1.out).grown hg2 fun g hg => .inl (by injection hg with hg; simp [hg]))
      have HS2 := Lib.hid hst2
      have HK2 := Lib.hid hk2
      clear hst2 hg2 hk2 HK1 HS1 HB1
      by_cases hv2 : v = 2
      · have t2 : (v == 2) = true := by simp [hv2]
        have hkx := Kx.fq (B' := 0) HQ2.out HS.out (Nat.zero_le _)
        have HLN : Hid (w2.ownsRow w.heap.size 166 2 (.slice OA q oc) q (cmCs l1) ∧ q = l1.length ∧ (∀ z ∈ l1, CmY w2 0 z) ∧ CwI holdK (ks.map Kd.p) (i + 1) (l1.map Cm.p) ∧ Fr w.heap.size 0 l1) := Lib.hid ⟨hkx.own HL.out.1 (by decide), HL.out.2.1, fun z hz => (HL.out.2.2.1 z hz).keep hkx (by decide), HL.out.2.2.2.1.skip, HL.out.2.2.2.2⟩
        have HQN : Hid (Fq [s] w w2) := Lib.hid (HQ.out.trans HQ2.out (SubF.refl _ _))
        clear hkx hv2
        go_wp2_with fail
        go_roundw
        case rel => exact ⟨i + 1, q, oc, OA, l1, by omega, by omega, by go_num, rfl, HLN, HS2, HQN⟩
        case measure => simp [intOf]; omega
      · have t2 : (v == 2) = false := by simp [hv2]
        clear hv2
        have c1 : w2.cell? ⟨wo.heap.size, 1, none⟩ = some (.slice kA kn kc) := HK2.out.cell 1
        have c2 : (w2.alloc (.cells #[.int .i64 (i : Int), .slice none 0 0] 166)).cell? ⟨wo.heap.size, 1, none⟩ = some (.slice kA kn kc) := (HK2.out.alloc _).cell 1
        obtain ⟨w3, hw3⟩ : ∃ w3, w3 = w2.alloc (.cells #[.int .i64 (i : Int), .slice none 0 0] 166) := ⟨_, rfl⟩
        have HB3 : Hid (Below w2.heap.size w2 w3) := Lib.hid (by rw [hw3]; exact (Below.refl _ _).alloc (Nat.le_refl _) _)
        have HC3 : Hid (Bk w3 w2.heap.size 166 #[.int .i64 (i : Int), .slice none 0 0]) := Lib.hid (by rw [hw3]; exact Bk.new _ _ _)
        have HS3 : Hid (StrSt w3 B s) := Lib.hid (HS2.out.below HB3.out (HS2.out.lo hB))
        have HQ3 : Hid (Fq [s] wo w3) := Lib.hid (HQ2.out.trans (Fq.of_below HB3.out) (SubF.refl _ _))
        have hw2s : wo.heap.size < w2.heap.size := HK2.out.lt
        have hkn8 : kn ≤ 8 := by
          have h1 := HON.out k (List.mem_of_getElem? HKK.out)
          have h2 := oneF_len h1
          have h3 := HKO.out.len
          rw [HKV.out.2.2.1] at h3
          omega
        go_wp2_with fail
        rw [← hw3]
        clear hw3 c1 c2
        obtain ⟨hc, hhc⟩ : ∃ hc, hc = w2.heap.size := ⟨_, rfl⟩
        rw [← hhc] at HC3 hw2s ⊢
        have HHC := Lib.hid hhc
        clear hhc
        go_loopw [26] (fun jv wx => ∃ (j vc : Nat) (VA : Option Addr) (vs : List Int), j ≤ kn ∧ jv = .int .i64 j ∧ Hid (Bk wx hc 166 #[.int .i64 (i : Int), .slice VA j vc] ∧ wx.ownsRow w2.heap.size 3 1 (.slice VA j vc) j (vs.map (Value.int .i64)) ∧ vs.length = j ∧ ∀ t f, t < j → k.fds[t]? = some f → f.low ≤ vs.getD t 0 ∧ vs.getD t 0 < f.low + 2 ^ f.bits.toNat) ∧ Hid (StrSt wx B s) ∧ Hid (Fq [s] wo wx)) (fun jv _ => kn - (intOf jv).toNat)
        case atStart => exact ⟨0, 0, none, [], Nat.zero_le _, rfl, Lib.hid ⟨HC3.out, World.ownsRow_nil _ _ _ _, rfl, (fun t f ht => by omega)⟩, HS3, HQ3⟩
        case round =>
          clear HC3 HS3 HQ3
          obtain ⟨j, vc, VA, vs, hj, rfl, HV, HSx, HQx⟩ := hrel
          by_cases hjl : j < kn
          · have hjz : (j : Int) < kn := by omega
            have hkf := Kx.fq (B' := B) HQx.out HS.out hB
            have hrd := (HKO.out.rd.keep hkf (by decide)).rd
            rw [HKV.out.2.1, HKV.out.2.2.1] at hrd
            obtain ⟨f, hf⟩ : ∃ f, k.fds[j]? = some f := ⟨_, List.getElem?_eq_getElem (by have := HKO.out.len; rw [HKV.out.2.2.1] at this; omega)⟩
            obtain ⟨fb, fo, rfl, hfb, e0, e1, e2⟩ := hrd.fd hjl hf
            have hfok := field_ok (one_ok (HON.out k (List.mem_of_getElem? HKK.out)) (List.mem_of_getElem? hf))
            have HF := Lib.hid hf
            clear hf hkf hrd
            generalize hfnm : f.nm = fnm at *
            obtain ⟨bt, hbt⟩ : ∃ bt : Nat, f.bits = bt := ⟨f.bits.toNat, by omega⟩
            generalize hlo : f.low = lo at *
            rw [hbt] at e1 hfok
            have p1 := pow2_one bt
            have p2 := pow2_32 bt (by omega)
            obtain ⟨M, hM⟩ : ∃ M, M = (2 : Int) ^ bt := ⟨_, rfl⟩
            rw [← hM] at p1 p2
            have hsh : wrap64 ((2 : Int) ^ bt) = M := by rw [← hM]; exact wrap_small (Int.le_trans (by decide) p1) (Int.le_trans p2 (by decide))
            have hsh2 : IntKind.i64.wrap ((2 : Int) ^ bt) = M := by rw [← hM]; exact wrap_small2 (Int.le_trans (by decide) p1) (Int.le_trans p2 (by decide))
            have HM := Lib.hid hM
            clear hM
            have HP := Lib.hid (And.intro p1 p2)
            have HFV := Lib.hid (And.intro hbt hlo)
            have hb32 : bt ≤ 32 := by omega
            have hb0 : (0 : Int) ≤ bt := by omega
            have hlo1 : -4294967296 ≤ lo := hfok.2.2.1
            have hlo2 : lo ≤ 4294967296 := hfok.2.2.2
            clear hfok p1 p2 hbt hlo hfnm
            obtain ⟨w5, hw5⟩ : ∃ w5, w5 = wr.alloc (.cells #[.string fnm, .int .i64 bt, .int .i64 lo] 66) := ⟨_, rfl⟩
            have HB5 : Hid (Below wr.heap.size wr w5) := Lib.hid (by rw [hw5]; exact (Below.refl _ _).alloc (Nat.le_refl _) _)
            have hh5 : Bk w5 wr.heap.size 66 #[.string fnm, .int .i64 bt, .int .i64 lo] := by rw [hw5]; exact Bk.new _ _ _
            have hcw : hc < wr.heap.size := HV.out.1.lt
            have hs5 : StrSt w5 B s := HSx.out.below HB5.out (HSx.out.lo hB)
            have hv5 : Bk w5 hc 166 #[.int .i64 (i : Int), .slice VA j vc] := HV.out.1.below HB5.out hcw
            have how5 : w5.ownsRow w2.heap.size 3 1 (.slice VA j vc) j (vs.map (Value.int .i64)) := (Kx.of_below (B := 0) (F := []) HB5.out).own HV.out.2.1 (by simp)
            go_wp2_with fail
            rw [← hw5]
            clear hw5 e0 e1 e2
            have hws : w.heap.size ≤ wo.heap.size := HQ.out.size
            have hfs : wr.heap.size ≠ s := by have := HQx.out.size; omega
            have hcs : hc ≠ s := by omega
            have hw5s : w.heap.size ≤ w5.heap.size := by have := HB5.out.size; have := HQx.out.size; omega
            have d1 : w5.cell? ⟨wr.heap.size, 1, none⟩ = some (.int .i64 bt) := hh5.cell 1
            have d2 : w5.cell? ⟨wr.heap.size, 2, none⟩ = some (.int .i64 lo) := hh5.cell 2
            have d3 : w5.cell? ⟨hc, 1, none⟩ = some (.slice VA j vc) := hv5.cell 1
            have HH5 := Lib.hid hh5
            have HV5 := Lib.hid hv5
            have HO5 := Lib.hid how5
            have HS5 := Lib.hid hs5
            have hw2w5 : w2.heap.size ≤ w5.heap.size := by have := HO5.out; have := HB5.out.size; have := HQx.out.size; have := HHC.out; omega
            clear hh5 hv5 how5 hs5
            go_region_law
              (first
                | (go_simp
                   go_at_call 98
                   (with_reducible refine (HNX.out s B M _ (HS5.out.below (w' := w5.drew) (Below.refl _ _).drew (HS5.out.lo hB)) hB HP.out.1 ?hM).mono ?_)
                   case hM => (have h := HP.out.2; omega)
                   rintro e w6 ⟨v6, rfl, hv60, hv61, hst6, hg6⟩
                   have hh6 := HH5.out.drew.grown hg6 (fun e => by injection e with e; omega)
                   have hv6 := HV5.out.drew.grown hg6 (fun e => by injection e with e; omega)
                   have hwv : IntKind.i64.wrap (lo + v6) = lo + v6 := by (have h := HP.out.2; exact wrap_small2 (by omega) (by omega))
                   have g1 : w6.cell? ⟨wr.heap.size, 1, none⟩ = some (.int .i64 bt) := hh6.cell 1
                   have g2 : w6.cell? ⟨wr.heap.size, 2, none⟩ = some (.int .i64 lo) := hh6.cell 2
                   have g3 : w6.cell? ⟨hc, 1, none⟩ = some (.slice VA j vc) := hv6.cell 1
                   have g4 : (w6.alloc (.cells #[.int .i64 (lo + v6)] 3)).cell? ⟨hc, 1, none⟩ = some (.slice VA j vc) := (hv6.alloc _).cell 1
                   have how6 : w6.ownsRow w2.heap.size 3 1 (.slice VA j vc) j (vs.map (Value.int .i64)) := own_keepB HO5.out fun g hg => hg6.block g (HO5.out.lt g hg).2 (fun e => by injection e with e; have := (HO5.out.lt g hg).1; have := HHC.out; omega))
                | (refine step_append_one rfl (.tmp 31) (.tmp 40) 30 rfl w2.heap.size 3 i3 (.int .i64 0) 1 8 Try.underlying30 hi3 hz30 hz31 hz32 rfl (by decide) (.slice VA j vc) j (vs.map (Value.int .i64)) rfl (World.ownsRow.alloc (w := w6) how6 _) w6.heap.size 1 3 #[.int .i64 (lo + v6)] rfl (Bk.new w6 _ _) rfl ?c1 (j + 1) rfl ?c2 ?c3 ?c4 ?_
                   case c1 => simp [Value.oneCell']
                   case c2 => unfold maxLen; omega
                   case c3 => omega
                   case c4 => (have := hg6.size; simp at this; simp; omega)
                   intro g7 c7 w7 hown7 hg7 hat7
                   have hv7 := (hv6.alloc (.cells #[.int .i64 (lo + v6)] 3)).grown hg7 (fun e => own_ne how6 hv6 (by decide) e.symm)
                   have e3 : w7.cell? ⟨hc, 1, none⟩ = some (.slice VA j vc) := hv7.cell 1
                   have f3 : w7.frozen? ⟨hc, 1, none⟩ = false := hv7.frozen 1))
            all_goals
              have hkx : Kx B [3, 166] w6 (w7.setCell ⟨hc, 1, none⟩ (.slice (some ⟨g7, 0, none⟩) (j + 1) c7)) := (((Kx.refl (B := B)).alloc _).grown (World.ownsRow.alloc (w := w6) how6 _) hg7 (by have := HHC.out; omega) (by simp)).set hv7 (by have := HHC.out; omega) (by simp) 1 _
              have HVN : Hid (Bk (w7.setCell ⟨hc, 1, none⟩ (.slice (some ⟨g7, 0, none⟩) (j + 1) c7)) hc 166 #[.int .i64 (i : Int), .slice (some ⟨g7, 0, none⟩) (j + 1) c7] ∧ (w7.setCell ⟨hc, 1, none⟩ (.slice (some ⟨g7, 0, none⟩) (j + 1) c7)).ownsRow w2.heap.size 3 1 (.slice (some ⟨g7, 0, none⟩) (j + 1) c7) (j + 1) ((vs ++ [lo + v6]).map (Value.int .i64)) ∧ (vs ++ [lo + v6]).length = j + 1 ∧ ∀ t f, t < j + 1 → k.fds[t]? = some f → f.low ≤ (vs ++ [lo + v6]).getD t 0 ∧ (vs ++ [lo + v6]).getD t 0 < f.low + 2 ^ f.bits.toNat) := Lib.hid
                ⟨by simpa using hv7.set_ 1 (.slice (some ⟨g7, 0, none⟩) (j + 1) c7), by rw [List.map_append]; exact own_far hown7 hv7 (by decide) 1 _, by rw [List.length_append, HV.out.2.2.1]; rfl, mk_range HV.out.2.2.1 HV.out.2.2.2 HF.out HFV.out.1 HFV.out.2 HM.out hv60 hv61⟩
              have HSN : Hid (StrSt (w7.setCell ⟨hc, 1, none⟩ (.slice (some ⟨g7, 0, none⟩) (j + 1) c7)) B s) := Lib.hid (hst6.kx hkx (Nat.le_refl _) (hst6.lo hB) (by decide))
              have HQN : Hid (Fq [s] wo (w7.setCell ⟨hc, 1, none⟩ (.slice (some ⟨g7, 0, none⟩) (j + 1) c7))) := Lib.hid ((((((HQx.out.trans (Fq.of_below HB5.out) (SubF.refl _ _)).drew).grown hg6 (fun g hg => .inl (by injection hg with hg; simp [hg]))).alloc _).grown hg7 (fun g hg => .inr (by have := (how6.lt g hg).1; have := HHC.out; omega))).set (.inr (by have := HHC.out; omega)) 1 _)
              clear hkx hown7 hg7 hat7 hv7 e3 f3 how6 g1 g2 g3 g4 hh6 hv6 hst6 hg6 hwv d1 d2 d3
              go_wp2_with fail
              go_roundw
              case rel => exact ⟨j + 1, c7, some ⟨g7, 0, none⟩, vs ++ [lo + v6], by omega, by go_num, HVN, HSN, HQN⟩
              case measure => simp [intOf]; omega
          · obtain rfl : kn = j := by omega
            have e0 : wr.cell? ⟨hc, 0, none⟩ = some (.int .i64 (i : Int)) := HV.out.1.cell 0
            have e1 : wr.cell? ⟨hc, 1, none⟩ = some (.slice VA kn vc) := HV.out.1.cell 1
            have hkx := Kx.fq (B' := 0) HQx.out HS.out (Nat.zero_le _)
            have HOW := Lib.hid (hkx.own HL.out.1 (by decide))
            have HZ : Hid (∀ z ∈ l1, CmY wr 0 z) := Lib.hid fun z hz => (HL.out.2.2.1 z hz).keep hkx (by decide)
            have hwsz2 : w.heap.size ≤ wr.heap.size := by have := HQx.out.size; omega
            clear hkx
            go_wp2_with
              (at_builtin
               go_must (refine wpList_append_one _ rfl (.tmp 44) (.tmp 46) _ rfl w.heap.size 166 i1 (.agg #[.int .i64 0, .slice none 0 0]) 2 32 Try.underlying38 hi1 hz10 hz11 hz12 rfl (by decide) (.slice OA q oc) q (cmCs l1) rfl (HOW.out.alloc _) wr.heap.size 1 166 #[.int .i64 (i : Int), .slice VA kn vc] rfl (Bk.new _ _ _) rfl ?c1 (q + 1) rfl ?c2 ?c3 ?c4 ?_)
               case c1 => simp [Value.oneCell']
               case c2 => unfold maxLen; omega
               case c3 => omega
               case c4 => (simp; omega)
               intro g8 c8 w8 hown8 hg8 hat8)
            have hkx8 : Kx 0 [166] wr w8 := ((Kx.refl (B := 0)).alloc _).grown (HOW.out.alloc _) hg8 (Nat.zero_le _) (by simp)
            have hcp := own_cap2 HV.out.2.1
            have hkl : kn = vs.length := HV.out.2.2.1.symm
            have HLN : Hid (w8.ownsRow w.heap.size 166 2 (.slice (some ⟨g8, 0, none⟩) (q + 1) c8) (q + 1) (cmCs (l1 ++ [(⟨i, VA, kn, vc, vs⟩ : Cm)])) ∧ q + 1 = (l1 ++ [(⟨i, VA, kn, vc, vs⟩ : Cm)]).length ∧ (∀ z ∈ l1 ++ [(⟨i, VA, kn, vc, vs⟩ : Cm)], CmY w8 0 z) ∧ CwI holdK (ks.map Kd.p) (i + 1) ((l1 ++ [(⟨i, VA, kn, vc, vs⟩ : Cm)]).map Cm.p) ∧ Fr w.heap.size 0 (l1 ++ [(⟨i, VA, kn, vc, vs⟩ : Cm)])) := Lib.hid ⟨by
                rw [show cmCs (l1 ++ [(⟨i, VA, kn, vc, vs⟩ : Cm)]) = cmCs l1 ++ (#[Value.int .i64 (i : Int), .slice VA kn vc] : Array Value).toList by simp [cmCs, Cm.cs]]
                exact hown8, by simp [HL.out.2.1], fun z hz => by
                rcases List.mem_append.1 hz with hz | hz
                · exact (HZ.out z hz).keep hkx8 (by decide)
                · rw [show z = ⟨i, VA, kn, vc, vs⟩ by simpa using hz]
                  exact ⟨(RdY.of_own HV.out.2.1).keep hkx8 (by decide), hkl, hcp.1, hcp.2, wf_i64 (by show _ ≤ ((i : Nat) : Int); omega) (by show ((i : Nat) : Int) ≤ _; omega)⟩, by
                rw [List.map_append]
                refine HL.out.2.2.2.1.keep (d := k.p) (by rw [List.getElem?_map, HKK.out]; rfl) ?_
                have hlen : vs.length = k.fds.length := by have := HKO.out.len; rw [HKV.out.2.2.1] at this; rw [← hkl]; exact this
                exact hold_of (HON.out k (List.mem_of_getElem? HKK.out)) hlen fun t f hf => HV.out.2.2.2 t f (by have := (List.getElem?_eq_some_iff.1 hf).1; have h9 : (k.p).2 = k.fds := rfl; rw [h9] at this; omega) hf, fun z hz hn b o hA => by
                rcases List.mem_append.1 hz with hz | hz
                · exact HL.out.2.2.2.2 z hz hn b o hA
                · rw [show z = ⟨i, VA, kn, vc, vs⟩ by simpa using hz] at hA
                  have hA : VA = some ⟨b, o, none⟩ := hA
                  subst hA
                  have := (HV.out.2.1.lt b rfl).1
                  have := HHC.out
                  exact .inr (by omega)⟩
            have HSN : Hid (StrSt w8 B s) := Lib.hid (HSx.out.kx (((Kx.refl (B := B)).alloc _).grown (F := [166]) (HOW.out.alloc _) hg8 (by have := HST.out.lo hB; omega) (by simp)) (Nat.le_refl _) (HSx.out.lo hB) (by decide))
            have HQN : Hid (Fq [s] w w8) := Lib.hid (((HQ.out.trans HQx.out (SubF.refl _ _)).alloc _).grown hg8 (fun g hg => .inr (HOW.out.lt g hg).1))
            clear hkx8 hown8 hg8 hat8 e0 e1
            go_wp2_with fail
            go_roundw
            case rel => first | exact ⟨i + 1, q + 1, c8, some ⟨g8, 0, none⟩, l1 ++ [(⟨i, VA, kn, vc, vs⟩ : Cm)], by omega, by omega, by go_num, rfl, HLN, HSN, HQN⟩ | ((repeat apply Exists.intro); exact ⟨⟨i + 1, q + 1, c8, some ⟨g8, 0, none⟩, l1 ++ [(⟨i, VA, kn, vc, vs⟩ : Cm)], by omega, by omega, by go_num, rfl, HLN, HSN, HQN⟩, rfl⟩)
            case measure => simp [intOf]; omega
    · obtain rfl : n = i := by omega
      have hcp := own_cap2 HL.out.1
      have hql := HL.out.2.1
      go_wp2_with fail
      go_ret
      subst hql
      exact ⟨OA, oc, l1, rfl, Lib.hid ⟨⟨RdY.of_own HL.out.1, rfl, hcp.1, hcp.2, HL.out.2.2.1⟩, HL.out.2.2.2.1.done, HL.out.2.2.2.2⟩, HS.out, HQ.out⟩
/-! ### Bx -/
noncomputable def vdOne : Code := (Try.f54.body.bind (blkN 5)).getD .skip
theorem Kx.grownS {w w' : World} {B s : Nat} {cs : Array Value} (hk : Bk w s 189 cs) (hg : w.grownBy w' (some s)) (hB : B ≤ s) : Kx B [189] w w' :=
  ⟨hg.size, fun b h1 h2 => hg.block b h2 (fun e => by injection e with e; omega), fun b t cs' h1 h2 => h1.grown hg fun e => by
    injection e with e
    subst e
    exact Bk.ne_ h1 hk (fun e => h2 (by simp [e])) rfl⟩
set_option maxHeartbeats 8000000 in
theorem vdOne_any {x0 x1 x2 x3 x4 x6 x7 x8 x9 x10 x12 x13 x14 x15 x16 x17 x18 x19 x20 x21 x22 x23 x24 x25 x26 x27 x28 x29 x30 x31 x32 x33 x34 x35 x36 x37 x38 x39 x40 x41 x42 x43 x44 x45 x46 x47 x48 x49 x50 x51 x52 x53 x54 x55 x56 x58 x60 x61 x62 x63 x64 x65 x66 x67 x68 x69 x70 x71 x72 x73 x74 x75 x76 x77 x78 x79 x80 x81 x82 x83 x84 x85 x86 x87 x88 x89 x90 x91 x92 x93 x94 x95 x96 x97 x98 x99 x100 x101 x102 x103 x104 x105 x106 x107 x108 : Value} {Q : Exit → Act → World → Prop} {wI w0 : World} {B D base s cA fn fc j vc i : Nat} {fA VA : Option Addr} {fds : List Fd} {f : Fd} {vs : List Int}
    (hst : StrSt w0 B s) (hB : B ≤ s) (hrd : Rd w0 D 3 fA fn (fdCs fds)) (_hfn : fn ≤ fc) (_hfc : fc ≤ 9223372036854775807) (hj : fds[j]? = some f) (hjl : j < fn) (hfok : 1 ≤ f.bits ∧ f.bits ≤ 32 ∧ -4294967296 ≤ f.low ∧ f.low ≤ 4294967296) (hj8 : j ≤ 64)
    (hc : Bk w0 cA 166 #[.int .i64 (i : Int), .slice VA j vc]) (ho : w0.ownsRow base 3 1 (.slice VA j vc) j (vs.map (Value.int .i64))) (hBb : B ≤ base) (hbase : base ≤ w0.heap.size) (hcA : base ≤ cA) (hQ : Fq [s] wI w0) (hI : wI.heap.size ≤ base)
    (hN : ∀ (y13 y61 y62 y63 y64 y65 y66 y67 y68 y69 y70 y71 y72 y73 y74 y75 : Value) (v : Int) (g7 c7 : Nat) (w' : World), Hid (0 ≤ v ∧ v < (2 : Int) ^ f.bits.toNat ∧ StrSt w' B s ∧ Bk w' cA 166 #[.int .i64 (i : Int), .slice (some ⟨g7, 0, none⟩) (j + 1) c7] ∧ w'.ownsRow base 3 1 (.slice (some ⟨g7, 0, none⟩) (j + 1) c7) (j + 1) ((vs ++ [f.low + v]).map (Value.int .i64)) ∧ Fq [s] wI w' ∧ Kx B [189, 3, 166] w0 w') → Q .normal ⟨#[x0, x1, x2, x3, x4, .pointer (some ⟨s, 0, none⟩), x6, x7, x8, x9, x10, .pointer (some ⟨cA, 0, none⟩), x12, y13, x14, x15, x16, x17, x18, x19, x20, x21, x22, x23, x24, x25, x26, x27, x28, x29, x30, x31, x32, x33, x34, x35, x36, x37, x38, x39, x40, x41, x42, x43, x44, x45, x46, x47, x48, x49, x50, x51, x52, x53, x54, x55, x56, .slice fA fn fc, x58, .int .i64 (j : Int), x60, y61, y62, y63, y64, y65, y66, y67, y68, y69, y70, y71, y72, y73, y74, y75, x76, x77, x78, x79, x80, x81, x82, x83, x84, x85, x86, x87, x88, x89, x90, x91, x92, x93, x94, x95, x96, x97, x98, x99, x100, x101, x102, x103, x104, x105, x106, x107, x108], []⟩ w') :
    Code.wp Try.prog vdOne Q ⟨#[x0, x1, x2, x3, x4, .pointer (some ⟨s, 0, none⟩), x6, x7, x8, x9, x10, .pointer (some ⟨cA, 0, none⟩), x12, x13, x14, x15, x16, x17, x18, x19, x20, x21, x22, x23, x24, x25, x26, x27, x28, x29, x30, x31, x32, x33, x34, x35, x36, x37, x38, x39, x40, x41, x42, x43, x44, x45, x46, x47, x48, x49, x50, x51, x52, x53, x54, x55, x56, .slice fA fn fc, x58, .int .i64 (j : Int), x60, x61, x62, x63, x64, x65, x66, x67, x68, x69, x70, x71, x72, x73, x74, x75, x76, x77, x78, x79, x80, x81, x82, x83, x84, x85, x86, x87, x88, x89, x90, x91, x92, x93, x94, x95, x96, x97, x98, x99, x100, x101, x102, x103, x104, x105, x106, x107, x108], []⟩ w0 := by
  conv => arg 2; whnf
  obtain ⟨i3, hi3, hz30, hz31, hz32⟩ := info_parts T.info3
  obtain ⟨fb, fo, rfl, hfb, e0, e1, e2⟩ := hrd.fd hjl hj
  have hjz : (j : Int) < fn := by omega
  have hjz0 : (0 : Int) ≤ j := by omega
  have HNX := Lib.hid next_any
  have HFL : Hid (f.bits.toNat = f.bits.toNat) := Lib.hid rfl
  generalize f.nm = fnm at *
  obtain ⟨bt, hbt⟩ : ∃ bt : Nat, f.bits = bt := ⟨f.bits.toNat, by omega⟩
  generalize hlo : f.low = lo at *
  rw [hbt] at e1 hfok hN
  rw [Int.toNat_natCast] at hN
  have p1 := pow2_one bt
  have p2 := pow2_32 bt (by omega)
  obtain ⟨M, hM⟩ : ∃ M, M = (2 : Int) ^ bt := ⟨_, rfl⟩
  rw [← hM] at p1 p2 hN
  have hsh : wrap64 ((2 : Int) ^ bt) = M := by rw [← hM]; exact wrap_small (Int.le_trans (by decide) p1) (Int.le_trans p2 (by decide))
  have hsh2 : IntKind.i64.wrap ((2 : Int) ^ bt) = M := by rw [← hM]; exact wrap_small2 (Int.le_trans (by decide) p1) (Int.le_trans p2 (by decide))
  have HM := Lib.hid hM
  clear hM
  have HP := Lib.hid (And.intro p1 p2)
  have hb32 : bt ≤ 32 := by omega
  have hb0 : (0 : Int) ≤ bt := by omega
  have hlo1 : -4294967296 ≤ lo := hfok.2.2.1
  have hlo2 : lo ≤ 4294967296 := hfok.2.2.2
  clear hfok p1 p2 hbt hlo hrd hj hfb HFL
  obtain ⟨w5, hw5⟩ : ∃ w5, w5 = w0.alloc (.cells #[.string fnm, .int .i64 bt, .int .i64 lo] 66) := ⟨_, rfl⟩
  obtain ⟨hf, hhf⟩ : ∃ z, z = w0.heap.size := ⟨_, rfl⟩
  have HB5 : Hid (Below w0.heap.size w0 w5) := Lib.hid (by rw [hw5]; exact (Below.refl _ _).alloc (Nat.le_refl _) _)
  have hh5 : Bk w5 hf 66 #[.string fnm, .int .i64 bt, .int .i64 lo] := by rw [hw5, hhf]; exact Bk.new _ _ _
  have hs5 : StrSt w5 B s := hst.below HB5.out (hst.lo hB)
  have hv5 : Bk w5 cA 166 #[.int .i64 (i : Int), .slice VA j vc] := hc.below HB5.out hc.lt
  have how5 : w5.ownsRow base 3 1 (.slice VA j vc) j (vs.map (Value.int .i64)) := (Kx.of_below (B := 0) (F := []) HB5.out).own ho (by simp)
  have hbs : B ≤ w0.heap.size := hst.lo hB
  obtain ⟨scs, hsk⟩ := hs5.bk
  have hfs : hf ≠ s := hh5.ne_ hsk (by decide)
  have hcs : cA ≠ s := hv5.ne_ hsk (by decide)
  have HRS : Hid (∀ g, (Value.slice VA j vc).ownBlock = some g → g ≠ s) := Lib.hid fun g hg e => own_ne how5 hsk (by decide) (by rw [hg, e])
  have HSZ5 : Hid (base ≤ w5.heap.size) := Lib.hid (Nat.le_trans hbase HB5.out.size)
  clear hst hc ho hsk
  go_upto_region 17 with fail
  rw [← hw5, ← hhf]
  clear hw5 hhf e0 e1 e2
  have d1 : w5.cell? ⟨hf, 1, none⟩ = some (.int .i64 bt) := hh5.cell 1
  have d2 : w5.cell? ⟨hf, 2, none⟩ = some (.int .i64 lo) := hh5.cell 2
  have d3 : w5.cell? ⟨cA, 1, none⟩ = some (.slice VA j vc) := hv5.cell 1
  have HH5 := Lib.hid hh5
  have HV5 := Lib.hid hv5
  have HO5 := Lib.hid how5
  have HS5 := Lib.hid hs5
  clear hh5 hv5 how5 hs5
  refine wp_region_noPanic ?_
  go_region_law
    (first
      | (go_simp
         go_at_call 98
         (with_reducible refine (HNX.out s B M _ (HS5.out.below (w' := w5.drew) (Below.refl _ _).drew (HS5.out.lo hB)) hB HP.out.1 ?hM).mono ?_)
         case hM => (have h := HP.out.2; omega)
         rintro e w6 ⟨v6, rfl, hv60, hv61, hst6, hg6⟩
         have hh6 := HH5.out.drew.grown hg6 (fun e => by injection e with e; omega)
         have hv6 := HV5.out.drew.grown hg6 (fun e => by injection e with e; omega)
         have hwv : IntKind.i64.wrap (lo + v6) = lo + v6 := by (have h := HP.out.2; exact wrap_small2 (by omega) (by omega))
         have g1 : w6.cell? ⟨hf, 1, none⟩ = some (.int .i64 bt) := hh6.cell 1
         have g2 : w6.cell? ⟨hf, 2, none⟩ = some (.int .i64 lo) := hh6.cell 2
         have g3 : w6.cell? ⟨cA, 1, none⟩ = some (.slice VA j vc) := hv6.cell 1
         have g4 : (w6.alloc (.cells #[.int .i64 (lo + v6)] 3)).cell? ⟨cA, 1, none⟩ = some (.slice VA j vc) := (hv6.alloc _).cell 1
         have how6 : w6.ownsRow base 3 1 (.slice VA j vc) j (vs.map (Value.int .i64)) := own_keepB HO5.out fun g hg => hg6.block g (HO5.out.lt g hg).2 (fun e => by injection e with e; exact HRS.out g hg e))
      | (refine step_append_one rfl (.tmp 64) (.tmp 73) 30 rfl base 3 i3 (.int .i64 0) 1 8 Try.underlying30 hi3 hz30 hz31 hz32 rfl (by decide) (.slice VA j vc) j (vs.map (Value.int .i64)) rfl (World.ownsRow.alloc (w := w6) how6 _) w6.heap.size 1 3 #[.int .i64 (lo + v6)] rfl (Bk.new w6 _ _) rfl ?c1 (j + 1) rfl ?c2 ?c3 ?c4 ?_
         case c1 => simp [Value.oneCell']
         case c2 => unfold maxLen; omega
         case c3 => omega
         case c4 => (have h1 := hg6.size; have h2 := HSZ5.out; simp at h1; simp; omega)
         intro g7 c7 w7 hown7 hg7 hat7
         have hv7 := (hv6.alloc (.cells #[.int .i64 (lo + v6)] 3)).grown hg7 (fun e => own_ne how6 hv6 (by decide) e.symm)
         have e3 : w7.cell? ⟨cA, 1, none⟩ = some (.slice VA j vc) := hv7.cell 1
         have f3 : w7.frozen? ⟨cA, 1, none⟩ = false := hv7.frozen 1))
  all_goals
    obtain ⟨scs5, hsk5⟩ := HS5.out.bk
    have hk6 : Kx B [189, 3, 166] w0 w6 := ((Kx.of_below HB5.out).drew.trans ((Kx.grownS hsk5.drew hg6 hB).mono (Nat.le_refl _) (by simp)))
    have hkx : Kx B [3, 166] w6 (w7.setCell ⟨cA, 1, none⟩ (.slice (some ⟨g7, 0, none⟩) (j + 1) c7)) := (((Kx.refl (B := B)).alloc _).grown (World.ownsRow.alloc (w := w6) how6 _) hg7 hBb (by simp)).set hv7 (by omega) (by simp) 1 _
    have hfq : Fq [s] wI (w7.setCell ⟨cA, 1, none⟩ (.slice (some ⟨g7, 0, none⟩) (j + 1) c7)) := ((((((hQ.trans (Fq.of_below HB5.out) (SubF.refl _ _)).drew).grown hg6 (fun g hg => .inl (by injection hg with hg; simp [hg]))).alloc _).grown hg7 (fun g hg => .inr (by have := (how6.lt g hg).1; omega))).set (.inr (by omega)) 1 _)
    have hkn : Kx B [189, 3, 166] w0 (w7.setCell ⟨cA, 1, none⟩ (.slice (some ⟨g7, 0, none⟩) (j + 1) c7)) := hk6.trans (hkx.mono (Nat.le_refl _) (by simp))
    have HF : Hid (0 ≤ v6 ∧ v6 < M ∧ StrSt (w7.setCell ⟨cA, 1, none⟩ (.slice (some ⟨g7, 0, none⟩) (j + 1) c7)) B s ∧ Bk (w7.setCell ⟨cA, 1, none⟩ (.slice (some ⟨g7, 0, none⟩) (j + 1) c7)) cA 166 #[.int .i64 (i : Int), .slice (some ⟨g7, 0, none⟩) (j + 1) c7] ∧ (w7.setCell ⟨cA, 1, none⟩ (.slice (some ⟨g7, 0, none⟩) (j + 1) c7)).ownsRow base 3 1 (.slice (some ⟨g7, 0, none⟩) (j + 1) c7) (j + 1) ((vs ++ [lo + v6]).map (Value.int .i64)) ∧ Fq [s] wI (w7.setCell ⟨cA, 1, none⟩ (.slice (some ⟨g7, 0, none⟩) (j + 1) c7)) ∧ Kx B [189, 3, 166] w0 (w7.setCell ⟨cA, 1, none⟩ (.slice (some ⟨g7, 0, none⟩) (j + 1) c7))) := Lib.hid
      ⟨hv60, hv61, hst6.kx hkx (Nat.le_refl _) (hst6.lo hB) (by decide), by simpa using hv7.set_ 1 (.slice (some ⟨g7, 0, none⟩) (j + 1) c7), by rw [List.map_append]; exact own_far hown7 hv7 (by decide) 1 _, hfq, hkn⟩
    clear hkx hkn hk6 hown7 hg7 hat7 hv7 e3 f3 how6 g1 g2 g3 g4 hh6 hv6 hst6 hg6 hwv d1 d2 d3 hsk5
    (try refine NoPanic.normal ?_)
    (try simp only [Exit.inBlock])
    first
      | exact HF
      | exact hN _ _ _ _ _ _ _ _ _ _ _ _ _ _ _ _ v6 g7 c7 _ HF
/-! ### Kj -/
def namedF (ks : List (ByteArray × List Fd)) (nm : ByteArray) (ns : List ByteArray) : Int × Bool :=
  if findF (ks.map (·.1)) nm < 0 then (-1, true) else
  match ks[(findF (ks.map (·.1)) nm).toNat]? with
  | some k => (findF (ks.map (·.1)) nm, decide (k.2.map Fd.nm = ns))
  | none => (-1, true)
theorem T.info9 : (Try.prog.info? 9).map (fun i => (i.zero, i.size, i.bytes)) = some (some (.string ByteArray.empty), 1, 16) := by kernel_rfl
theorem Bk.new2 (w : World) (o : Obj) (t : TypeId) (cs : Array Value) : Bk ((w.alloc o).alloc (.cells cs t)) (w.heap.size + 1) t cs := by simpa using Bk.new (w.alloc o) t cs
theorem below_drewN {B : Nat} {w w' : World} (h : Below B w w') (q : Nat) : Below B w (w'.drewN q) := by
  cases h
  constructor <;> assumption
theorem strV_append (a b : List ByteArray) : strV (a ++ b) = strV a ++ strV b := by simp [strV]
set_option maxHeartbeats 1600000 in
theorem named_any (A SA : Option Addr) (n c m sc B : Nat) (ks : List Kd) (nm : ByteArray) (ns : List ByteArray) (w : World) (hr : Rd w B 2 A n (kdCs ks)) (hn : n = ks.length) (hc : n ≤ c) (hc2 : c ≤ 9223372036854775807) (hks : ∀ k ∈ ks, KdOk w B k) (hsm : ∀ k ∈ ks, k.n ≤ 1048576)
    (hs : Rd w B 1 SA m (strV ns)) (hm : m = ns.length) (hB : B ≤ w.heap.size) :
    Calls Try.prog 154 #[.slice A n c, .string nm, .slice SA m sc] w fun e w' => e = .returned (.tuple #[.int .i64 (namedF (ks.map Kd.p) nm ns).1, .bool (namedF (ks.map Kd.p) nm ns).2]) ∧ Below w.heap.size w w' := by
  obtain ⟨i0, hi0, hz0, hz1, hz2⟩ := info_parts T.info9
  obtain ⟨R, hR⟩ : ∃ R, R = namedF (ks.map Kd.p) nm ns := ⟨_, rfl⟩
  rw [← hR]
  have HR := Lib.hid hR
  have HN := Lib.hid hn
  have HM := Lib.hid hm
  have HRD := Lib.hid hr
  have HSD := Lib.hid hs
  have HKS := Lib.hid hks
  have HSM := Lib.hid hsm
  have HBB := Lib.hid hB
  clear hr hn hR hks hs hm hsm
  clear hB
  go_enter Try.func154, Try.ntmps154
  go_wp2_with fail
  go_loopg [15] n (fun g v wr => ∃ k : Nat, k ≤ n ∧ g = n - k ∧ v = .int .i64 k ∧ Hid (∀ i, i < k → ∀ x, (ks.map Kd.nm)[i]? = some x → x ≠ nm) ∧ Hid (Below w.heap.size w wr))
  case atStart => exact ⟨0, Nat.zero_le _, rfl, rfl, Lib.hid (fun i hi => by omega), Lib.hid (Below.refl _ _)⟩
  case round =>
    obtain ⟨k, hk, rfl, rfl, HNE, HW⟩ := hrel
    by_cases hkn : k < n
    · obtain ⟨f, hf⟩ : ∃ f, ks[k]? = some f := ⟨_, List.getElem?_eq_getElem (by have := HN.out; omega)⟩
      have hrw : Rd wr B 2 A n (kdCs ks) := HRD.out.below (HW.out.mono HBB.out)
      obtain ⟨b, o, hA, hbB, c0, c1⟩ := hrw.kd hkn hf
      subst hA
      have HF : Hid ((ks.map Kd.nm)[k]? = some f.nm) := Lib.hid (by rw [List.getElem?_map, hf]; rfl)
      have HFP : Hid ((ks.map Kd.p)[k]? = some (f.nm, f.fds)) := Lib.hid (by rw [List.getElem?_map, hf]; rfl)
      have HFO := Lib.hid (HKS.out f (List.mem_of_getElem? hf))
      have hfs := HSM.out f (List.mem_of_getElem? hf)
      have HFR := Lib.hid HFO.out.rd
      have HFL := Lib.hid HFO.out.len
      have hkz : (k : Int) < n := by omega
      have hkz0 : (0 : Int) ≤ k := by omega
      clear hrw hf HFO
      generalize f.nm = fn at *
      generalize f.A = fA at *
      generalize f.n = fl at *
      generalize f.c = fc at *
      by_cases hgf : fn = nm
      · subst hgf
        have HRK : Hid (R = ((k : Int), decide (f.fds.map Fd.nm = ns))) := Lib.hid (by
          rw [HR.out, namedF, kdp_nm, findF_hit HF.out HNE.out, if_neg (by omega), Int.toNat_natCast, HFP.out])
        clear HNE
        have hk1 := (HW.out.alloc HW.out.size (.cells #[.string fn, .slice fA fl fc] 63))
        have HK1 := Lib.hid hk1
        clear hk1
        go_wp2_with fail
        go_loopw [10, 27] (fun out v wi => ∃ (j : Nat) (A2 : Option Addr) (c2 : Nat), j ≤ fl ∧ v = .int .i64 j ∧ out = .slice A2 j c2 ∧ wi.ownsRow w.heap.size 9 1 (.slice A2 j c2) j (strV ((f.fds.map Fd.nm).take j)) ∧ Below w.heap.size w wi) (fun _ v _ => fl - (intOf v).toNat)
        case atStart => exact ⟨0, none, 0, Nat.zero_le _, rfl, rfl, World.ownsRow_nil _ _ _ _, HK1.out⟩
        case round =>
          obtain ⟨j, A2, c2, hj, rfl, rfl, hown, hb⟩ := hrel
          clear c0 c1
          have hsz := hb.size
          by_cases hjl : j < fl
          · obtain ⟨fd, hfd⟩ : ∃ fd, f.fds[j]? = some fd := ⟨_, List.getElem?_eq_getElem (by have := HFL.out; omega)⟩
            have hfw : Rd wr B 3 fA fl (fdCs f.fds) := HFR.out.below (hb.mono HBB.out)
            obtain ⟨b2, o2, hA2, hbB2, d0, d1, d2⟩ := hfw.fd hjl hfd
            subst hA2
            have HS : Hid ((f.fds.map Fd.nm).take (j + 1) = (f.fds.map Fd.nm).take j ++ [fd.nm]) := Lib.hid (by rw [List.take_add_one, List.getElem?_map, hfd]; rfl)
            have hjz : (j : Int) < fl := by omega
            have hjz0 : (0 : Int) ≤ j := by omega
            clear hfw hfd
            generalize fd.nm = gn at *
            generalize fd.bits = gb at *
            generalize fd.low = gl at *
            go_wp2_with
              (at_builtin
               go_must (refine wpList_append_one _ rfl (.tmp 31) (.tmp 34) _ rfl w.heap.size 9 i0 (.string ByteArray.empty) 1 16 Try.underlying108 hi0 hz0 hz1 hz2 rfl (by decide) (.slice A2 j c2) j _ rfl ((hown.alloc _).alloc _) _ 1 9 #[.string gn] rfl (Bk.new2 _ _ _ _) rfl ?c1 (j + 1) rfl ?c2 ?c3 ?c4 ?_)
               case c1 => simp [Value.oneCell']
               case c2 => unfold maxLen; omega
               case c3 => omega
               case c4 => simp; omega
               intro g5 cc5 w5 hown5 hg5 hat5)
            go_roundw
            case measure => simp [intOf]; omega
            case rel =>
              refine ⟨j + 1, _, cc5, by omega, by go_num, rfl, ?_, ((hb.alloc hsz _).alloc (by simp; omega) _).grown hg5 (by simp; omega) (fun q hq => (hown.lt q hq).1)⟩
              rw [HS.out, strV_append]
              exact hown5
          · obtain rfl : j = fl := by omega
            have hfull : (f.fds.map Fd.nm).take j = f.fds.map Fd.nm := List.take_of_length_le (by rw [List.length_map, ← HFL.out]; exact Nat.le_refl _)
            rw [hfull] at hown
            have heq := equalSS_any A2 SA j c2 m sc wr.heap.size (f.fds.map Fd.nm) ns wr (by rw [List.length_map, ← HFL.out]) HM.out (by omega) (Rd.of_own hown) ((HSD.out.below (hb.mono HBB.out)).more (Nat.le_trans HBB.out hsz))
            have HEQ := Lib.hid heq
            have HBI := Lib.hid hb
            clear heq hfull hb hown
            go_wp2_with fail
            refine HEQ.out.mono ?_
            rintro e w6 ⟨rfl, q, rfl⟩
            go_wp2_with fail
            go_ret2
            rw [HRK.out]
            exact ⟨rfl, below_drewN HBI.out q⟩
      · have hgb : (fn == nm) = false := ba_beq_ne hgf
        have hgl : (fn.toList == nm.toList) = false := ba_tl_ne hgf
        have hgb' : (nm == fn) = false := ba_beq_ne fun e => hgf e.symm
        have hgl' : (nm.toList == fn.toList) = false := ba_tl_ne fun e => hgf e.symm
        go_wp2_with fail
        go_roundg (n - (k + 1))
        case measure => omega
        case rel => exact ⟨k + 1, by omega, rfl, by go_num, Lib.hid fun i hi x hx => by
          rcases Nat.lt_or_ge i k with h | h
          · exact HNE.out i h x hx
          · obtain rfl : i = k := by omega
            rw [HF.out] at hx
            injection hx with hx
            rw [← hx]; exact hgf, Lib.hid (HW.out.alloc HW.out.size _)⟩
    · obtain rfl : k = n := by omega
      go_wp2_with fail
      go_ret2
      have hno : findF (ks.map Kd.nm) nm = -1 := findF_none fun i hi x hx => HNE.out i (by rw [List.length_map, ← HN.out] at hi; exact hi) x hx
      rw [HR.out, namedF, kdp_nm, hno, if_pos (by decide)]
      exact ⟨rfl, HW.out⟩
/-! ### Kl -/
def sp0 : ByteArray × List ByteArray := (⟨#[112, 108, 97, 99, 101]⟩, [⟨#[120]⟩, ⟨#[121]⟩, ⟨#[97, 110, 103]⟩])
def sp1 : ByteArray × List ByteArray := (⟨#[109, 111, 116, 105, 111, 110]⟩, [⟨#[118, 120]⟩, ⟨#[118, 121]⟩, ⟨#[115, 112, 105, 110]⟩, ⟨#[99, 97, 108, 109]⟩])
def sp2 : ByteArray × List ByteArray := (⟨#[115, 104, 97, 112, 101]⟩, [⟨#[119]⟩, ⟨#[104]⟩, ⟨#[109, 97, 115, 115]⟩, ⟨#[98, 111, 117, 110, 99, 101]⟩, ⟨#[114, 117, 98]⟩])
def sp3 : ByteArray × List ByteArray := (⟨#[105, 110, 112, 117, 116]⟩, [⟨#[112, 108, 97, 121, 101, 114]⟩, ⟨#[107, 101, 121, 115]⟩, ⟨#[120]⟩, ⟨#[121]⟩])
def sp4 : ByteArray × List ByteArray := (⟨#[109, 105, 110, 100]⟩, [⟨#[112, 114, 111, 103]⟩])
def NamedP (w : World) (r : Int × Bool) (e : Ending) (w' : World) : Prop := e = .returned (.tuple #[.int .i64 r.1, .bool r.2]) ∧ Below w.heap.size w w'
theorem named_lit {w : World} {B n c : Nat} {A : Option Addr} {ks : List Kd} (h : KsOk w B A n c ks) (hsm : ∀ k ∈ ks, k.n ≤ 1048576) (nm : ByteArray) (ns : List ByteArray) :
    Calls Try.prog 154 #[.slice A n c, .string nm, .slice (some ⟨w.heap.size, 0, none⟩) ns.length ns.length] (w.alloc (.cells (strV ns).toArray 9)) (NamedP w (namedF (ks.map Kd.p) nm ns)) := by
  have hb := (Below.refl w.heap.size w).alloc (Nat.le_refl _) (.cells (strV ns).toArray 9)
  have h2 := (h.below (hb.mono h.lo)).more (B' := w.heap.size + 1) (by have := h.lo; omega) (by simp)
  have hl := Rd.lit w (strV ns) 9
  rw [show (strV ns).length = ns.length by simp [strV]] at hl
  exact (named_any A (some ⟨w.heap.size, 0, none⟩) n c ns.length ns.length (w.heap.size + 1) ks nm ns _ h2.rd h2.len h2.cap h2.cap2 h2.ok hsm hl rfl h2.lo).mono fun e w' hh => ⟨hh.1, hb.trans (hh.2.mono (by simp))⟩
/-- The state between two calls: the kinds, and the two arrays of the call's own. -/
structure SpSt (w v : World) (B : Nat) (A : Option Addr) (n c : Nat) (ks : List Kd) (x y : Array Value) : Prop where
  ks : KsOk v B A n c ks
  bx : Bk v w.heap.size 141 x
  ly : Bk v (w.heap.size + 1) 142 y
  bl : Below w.heap.size w v
  lo : B ≤ w.heap.size
theorem SpSt.next {w v v' : World} {B n c : Nat} {A : Option Addr} {ks : List Kd} {x y : Array Value} (h : SpSt w v B A n c ks x y) (hb : Below v.heap.size v v') : SpSt w v' B A n c ks x y :=
  ⟨h.ks.below (hb.mono h.ks.lo), h.bx.below hb h.bx.lt, h.ly.below hb h.ly.lt, h.bl.trans (hb.mono h.bl.size), h.lo⟩
theorem SpSt.put {w v : World} {B n c : Nat} {A : Option Addr} {ks : List Kd} {x y : Array Value} (h : SpSt w v B A n c ks x y) (i : Nat) (a b : Value) :
    SpSt w ((v.setCell ⟨w.heap.size, i, none⟩ a).setCell ⟨w.heap.size + 1, i, none⟩ b) B A n c ks (x.setIfInBounds i a) (y.setIfInBounds i b) := by
  have hb : Below w.heap.size v ((v.setCell ⟨w.heap.size, i, none⟩ a).setCell ⟨w.heap.size + 1, i, none⟩ b) :=
    ((Below.refl w.heap.size v).setCell (p := ⟨w.heap.size, i, none⟩) (Nat.le_refl _) _).setCell (p := ⟨w.heap.size + 1, i, none⟩) (Nat.le_succ _) _
  exact ⟨h.ks.below (hb.mono h.lo), (h.bx.set_ i a).far (by show w.heap.size ≠ w.heap.size + 1; omega) _, (h.ly.far (by show w.heap.size + 1 ≠ w.heap.size; omega) _).set_ i b, h.bl.trans hb, h.lo⟩
theorem SpSt.start {w : World} {B n c : Nat} {A : Option Addr} {ks : List Kd} (h : KsOk w B A n c ks) (x y : Array Value) : SpSt w ((w.alloc (.cells x 141)).alloc (.cells y 142)) B A n c ks x y := by
  have hb := ((Below.refl w.heap.size w).alloc (Nat.le_refl _) (.cells x 141)).alloc (by simp) (.cells y 142)
  exact ⟨h.below (hb.mono h.lo), (Bk.new w 141 x).alloc _, Bk.new2 w _ 142 y, hb, h.lo⟩
theorem results_cell_cell {fn : Func} {p q : Tmp} {ty tz : TypeId} (h : fn.results = #[.cell p ty, .cell q tz]) (tmps : Array Value) (P : Program) (w : World) :
    (results fn tmps).run P w =
      ((asAddr (tmps.getD p undef)).run P w).andThen fun a w₁ => ((loadVar ty a).run P w₁).andThen fun v w₂ =>
        ((asAddr (tmps.getD q undef)).run P w₂).andThen fun a w₃ => ((loadVar tz a).run P w₃).andThen fun u w₄ => .ok (.tuple #[v, u]) w₄ := by
  simp only [results, h]
  simp [Sem.run_bind, Result.andThen]
def spec (ks : List (ByteArray × List Fd)) (s : ByteArray × List ByteArray) : Int × Bool := namedF ks s.1 s.2
def spX (ks : List (ByteArray × List Fd)) : Value := .agg #[.int .i64 (spec ks sp0).1, .int .i64 (spec ks sp1).1, .int .i64 (spec ks sp2).1, .int .i64 (spec ks sp3).1, .int .i64 (spec ks sp4).1]
def spY (ks : List (ByteArray × List Fd)) : Value := .agg #[.bool (spec ks sp0).2, .bool (spec ks sp1).2, .bool (spec ks sp2).2, .bool (spec ks sp3).2, .bool (spec ks sp4).2]
def SpecP (w : World) (ks : List (ByteArray × List Fd)) (e : Ending) (w' : World) : Prop := e = .returned (.tuple #[spX ks, spY ks]) ∧ Below w.heap.size w w'
set_option maxHeartbeats 1600000 in
theorem special_any {w : World} {B n c : Nat} {A : Option Addr} {ks : List Kd} (h : KsOk w B A n c ks) (hsm : ∀ k ∈ ks, k.n ≤ 1048576) : Calls Try.prog 67 #[.slice A n c] w (SpecP w (ks.map Kd.p)) := by
  obtain ⟨w0, hw0⟩ : ∃ w0, w0 = (w.alloc (.cells #[.int .i64 0, .int .i64 0, .int .i64 0, .int .i64 0, .int .i64 0] 141)).alloc (.cells #[.bool false, .bool false, .bool false, .bool false, .bool false] 142) := ⟨_, rfl⟩
  have HS0 : Hid (SpSt w w0 B A n c ks #[.int .i64 0, .int .i64 0, .int .i64 0, .int .i64 0, .int .i64 0] #[.bool false, .bool false, .bool false, .bool false, .bool false]) := Lib.hid (by rw [hw0]; exact SpSt.start h _ _)
  have HSM := Lib.hid hsm
  clear hsm
  unfold SpecP spX spY
  generalize hr0 : spec (ks.map Kd.p) sp0 = r0
  obtain ⟨a0, b0⟩ := r0
  generalize hr1 : spec (ks.map Kd.p) sp1 = r1
  obtain ⟨a1, b1⟩ := r1
  generalize hr2 : spec (ks.map Kd.p) sp2 = r2
  obtain ⟨a2, b2⟩ := r2
  generalize hr3 : spec (ks.map Kd.p) sp3 = r3
  obtain ⟨a3, b3⟩ := r3
  generalize hr4 : spec (ks.map Kd.p) sp4 = r4
  obtain ⟨a4, b4⟩ := r4
  go_enter Try.func67, Try.ntmps67
  have hf : Calls Try.prog 154 #[.slice A n c, .string ⟨#[112, 108, 97, 99, 101]⟩, .slice (some ⟨(w0).heap.size, 0, none⟩) 3 3] ((w0).alloc (.cells #[.string ⟨#[120]⟩, .string ⟨#[121]⟩, .string ⟨#[97, 110, 103]⟩] 9)) (NamedP (w0) (a0, b0)) := by
    have h9 := named_lit HS0.out.ks HSM.out sp0.1 sp0.2
    rw [show namedF (ks.map Kd.p) sp0.1 sp0.2 = (a0, b0) from hr0] at h9
    exact h9
  have HW0 := Lib.hid hw0
  have HF0 := Lib.hid hf
  clear hf hr0
  clear hw0
  go_wp2_with fail
  rw [← HW0.out]
  rw [show w.heap.size + 1 + 1 = w0.heap.size from by rw [HW0.out]; simp]
  refine HF0.out.mono ?_
  rintro e v0 ⟨rfl, hbv⟩
  have HV0 := Lib.hid (HS0.out.next hbv)
  clear hbv HS0 HF0
  have m0 : v0.cell? ⟨w.heap.size, 0, none⟩ = some (.int .i64 0) := HV0.out.bx.cell 0
  have mf0 := HV0.out.bx.frozen 0
  have my0 : (v0.setCell ⟨w.heap.size, 0, none⟩ (.int .i64 a0)).cell? ⟨w.heap.size + 1, 0, none⟩ = some (.bool false) := (HV0.out.ly.far (by show w.heap.size + 1 ≠ w.heap.size; omega) _).cell 0
  have myf0 : (v0.setCell ⟨w.heap.size, 0, none⟩ (.int .i64 a0)).frozen? ⟨w.heap.size + 1, 0, none⟩ = false := (HV0.out.ly.far (by show w.heap.size + 1 ≠ w.heap.size; omega) _).frozen 0
  have HS1 : Hid (SpSt w ((v0.setCell ⟨w.heap.size, 0, none⟩ (.int .i64 a0)).setCell ⟨w.heap.size + 1, 0, none⟩ (.bool b0)) B A n c ks #[.int .i64 a0, .int .i64 0, .int .i64 0, .int .i64 0, .int .i64 0] #[.bool b0, .bool false, .bool false, .bool false, .bool false]) := Lib.hid (HV0.out.put 0 (.int .i64 a0) (.bool b0))
  have hf : Calls Try.prog 154 #[.slice A n c, .string ⟨#[109, 111, 116, 105, 111, 110]⟩, .slice (some ⟨((v0.setCell ⟨w.heap.size, 0, none⟩ (.int .i64 a0)).setCell ⟨w.heap.size + 1, 0, none⟩ (.bool b0)).heap.size, 0, none⟩) 4 4] (((v0.setCell ⟨w.heap.size, 0, none⟩ (.int .i64 a0)).setCell ⟨w.heap.size + 1, 0, none⟩ (.bool b0)).alloc (.cells #[.string ⟨#[118, 120]⟩, .string ⟨#[118, 121]⟩, .string ⟨#[115, 112, 105, 110]⟩, .string ⟨#[99, 97, 108, 109]⟩] 9)) (NamedP ((v0.setCell ⟨w.heap.size, 0, none⟩ (.int .i64 a0)).setCell ⟨w.heap.size + 1, 0, none⟩ (.bool b0)) (a1, b1)) := by
    have h9 := named_lit HS1.out.ks HSM.out sp1.1 sp1.2
    rw [show namedF (ks.map Kd.p) sp1.1 sp1.2 = (a1, b1) from hr1] at h9
    exact h9
  rw [show ((v0.setCell ⟨w.heap.size, 0, none⟩ (.int .i64 a0)).setCell ⟨w.heap.size + 1, 0, none⟩ (.bool b0)).heap.size = v0.heap.size from by simp [World.setCell]] at hf
  have HF1 := Lib.hid hf
  clear hf hr1
  go_wp2_with fail
  refine HF1.out.mono ?_
  rintro e v1 ⟨rfl, hbv⟩
  have HV1 := Lib.hid (HS1.out.next hbv)
  clear hbv HS1 HF1
  have m1 : v1.cell? ⟨w.heap.size, 1, none⟩ = some (.int .i64 0) := HV1.out.bx.cell 1
  have mf1 := HV1.out.bx.frozen 1
  have my1 : (v1.setCell ⟨w.heap.size, 1, none⟩ (.int .i64 a1)).cell? ⟨w.heap.size + 1, 1, none⟩ = some (.bool false) := (HV1.out.ly.far (by show w.heap.size + 1 ≠ w.heap.size; omega) _).cell 1
  have myf1 : (v1.setCell ⟨w.heap.size, 1, none⟩ (.int .i64 a1)).frozen? ⟨w.heap.size + 1, 1, none⟩ = false := (HV1.out.ly.far (by show w.heap.size + 1 ≠ w.heap.size; omega) _).frozen 1
  have HS2 : Hid (SpSt w ((v1.setCell ⟨w.heap.size, 1, none⟩ (.int .i64 a1)).setCell ⟨w.heap.size + 1, 1, none⟩ (.bool b1)) B A n c ks #[.int .i64 a0, .int .i64 a1, .int .i64 0, .int .i64 0, .int .i64 0] #[.bool b0, .bool b1, .bool false, .bool false, .bool false]) := Lib.hid (HV1.out.put 1 (.int .i64 a1) (.bool b1))
  have hf : Calls Try.prog 154 #[.slice A n c, .string ⟨#[115, 104, 97, 112, 101]⟩, .slice (some ⟨((v1.setCell ⟨w.heap.size, 1, none⟩ (.int .i64 a1)).setCell ⟨w.heap.size + 1, 1, none⟩ (.bool b1)).heap.size, 0, none⟩) 5 5] (((v1.setCell ⟨w.heap.size, 1, none⟩ (.int .i64 a1)).setCell ⟨w.heap.size + 1, 1, none⟩ (.bool b1)).alloc (.cells #[.string ⟨#[119]⟩, .string ⟨#[104]⟩, .string ⟨#[109, 97, 115, 115]⟩, .string ⟨#[98, 111, 117, 110, 99, 101]⟩, .string ⟨#[114, 117, 98]⟩] 9)) (NamedP ((v1.setCell ⟨w.heap.size, 1, none⟩ (.int .i64 a1)).setCell ⟨w.heap.size + 1, 1, none⟩ (.bool b1)) (a2, b2)) := by
    have h9 := named_lit HS2.out.ks HSM.out sp2.1 sp2.2
    rw [show namedF (ks.map Kd.p) sp2.1 sp2.2 = (a2, b2) from hr2] at h9
    exact h9
  rw [show ((v1.setCell ⟨w.heap.size, 1, none⟩ (.int .i64 a1)).setCell ⟨w.heap.size + 1, 1, none⟩ (.bool b1)).heap.size = v1.heap.size from by simp [World.setCell]] at hf
  have HF2 := Lib.hid hf
  clear hf hr2
  go_wp2_with fail
  refine HF2.out.mono ?_
  rintro e v2 ⟨rfl, hbv⟩
  have HV2 := Lib.hid (HS2.out.next hbv)
  clear hbv HS2 HF2
  have m2 : v2.cell? ⟨w.heap.size, 2, none⟩ = some (.int .i64 0) := HV2.out.bx.cell 2
  have mf2 := HV2.out.bx.frozen 2
  have my2 : (v2.setCell ⟨w.heap.size, 2, none⟩ (.int .i64 a2)).cell? ⟨w.heap.size + 1, 2, none⟩ = some (.bool false) := (HV2.out.ly.far (by show w.heap.size + 1 ≠ w.heap.size; omega) _).cell 2
  have myf2 : (v2.setCell ⟨w.heap.size, 2, none⟩ (.int .i64 a2)).frozen? ⟨w.heap.size + 1, 2, none⟩ = false := (HV2.out.ly.far (by show w.heap.size + 1 ≠ w.heap.size; omega) _).frozen 2
  have HS3 : Hid (SpSt w ((v2.setCell ⟨w.heap.size, 2, none⟩ (.int .i64 a2)).setCell ⟨w.heap.size + 1, 2, none⟩ (.bool b2)) B A n c ks #[.int .i64 a0, .int .i64 a1, .int .i64 a2, .int .i64 0, .int .i64 0] #[.bool b0, .bool b1, .bool b2, .bool false, .bool false]) := Lib.hid (HV2.out.put 2 (.int .i64 a2) (.bool b2))
  have hf : Calls Try.prog 154 #[.slice A n c, .string ⟨#[105, 110, 112, 117, 116]⟩, .slice (some ⟨((v2.setCell ⟨w.heap.size, 2, none⟩ (.int .i64 a2)).setCell ⟨w.heap.size + 1, 2, none⟩ (.bool b2)).heap.size, 0, none⟩) 4 4] (((v2.setCell ⟨w.heap.size, 2, none⟩ (.int .i64 a2)).setCell ⟨w.heap.size + 1, 2, none⟩ (.bool b2)).alloc (.cells #[.string ⟨#[112, 108, 97, 121, 101, 114]⟩, .string ⟨#[107, 101, 121, 115]⟩, .string ⟨#[120]⟩, .string ⟨#[121]⟩] 9)) (NamedP ((v2.setCell ⟨w.heap.size, 2, none⟩ (.int .i64 a2)).setCell ⟨w.heap.size + 1, 2, none⟩ (.bool b2)) (a3, b3)) := by
    have h9 := named_lit HS3.out.ks HSM.out sp3.1 sp3.2
    rw [show namedF (ks.map Kd.p) sp3.1 sp3.2 = (a3, b3) from hr3] at h9
    exact h9
  rw [show ((v2.setCell ⟨w.heap.size, 2, none⟩ (.int .i64 a2)).setCell ⟨w.heap.size + 1, 2, none⟩ (.bool b2)).heap.size = v2.heap.size from by simp [World.setCell]] at hf
  have HF3 := Lib.hid hf
  clear hf hr3
  go_wp2_with fail
  refine HF3.out.mono ?_
  rintro e v3 ⟨rfl, hbv⟩
  have HV3 := Lib.hid (HS3.out.next hbv)
  clear hbv HS3 HF3
  have m3 : v3.cell? ⟨w.heap.size, 3, none⟩ = some (.int .i64 0) := HV3.out.bx.cell 3
  have mf3 := HV3.out.bx.frozen 3
  have my3 : (v3.setCell ⟨w.heap.size, 3, none⟩ (.int .i64 a3)).cell? ⟨w.heap.size + 1, 3, none⟩ = some (.bool false) := (HV3.out.ly.far (by show w.heap.size + 1 ≠ w.heap.size; omega) _).cell 3
  have myf3 : (v3.setCell ⟨w.heap.size, 3, none⟩ (.int .i64 a3)).frozen? ⟨w.heap.size + 1, 3, none⟩ = false := (HV3.out.ly.far (by show w.heap.size + 1 ≠ w.heap.size; omega) _).frozen 3
  have HS4 : Hid (SpSt w ((v3.setCell ⟨w.heap.size, 3, none⟩ (.int .i64 a3)).setCell ⟨w.heap.size + 1, 3, none⟩ (.bool b3)) B A n c ks #[.int .i64 a0, .int .i64 a1, .int .i64 a2, .int .i64 a3, .int .i64 0] #[.bool b0, .bool b1, .bool b2, .bool b3, .bool false]) := Lib.hid (HV3.out.put 3 (.int .i64 a3) (.bool b3))
  have hf : Calls Try.prog 154 #[.slice A n c, .string ⟨#[109, 105, 110, 100]⟩, .slice (some ⟨((v3.setCell ⟨w.heap.size, 3, none⟩ (.int .i64 a3)).setCell ⟨w.heap.size + 1, 3, none⟩ (.bool b3)).heap.size, 0, none⟩) 1 1] (((v3.setCell ⟨w.heap.size, 3, none⟩ (.int .i64 a3)).setCell ⟨w.heap.size + 1, 3, none⟩ (.bool b3)).alloc (.cells #[.string ⟨#[112, 114, 111, 103]⟩] 9)) (NamedP ((v3.setCell ⟨w.heap.size, 3, none⟩ (.int .i64 a3)).setCell ⟨w.heap.size + 1, 3, none⟩ (.bool b3)) (a4, b4)) := by
    have h9 := named_lit HS4.out.ks HSM.out sp4.1 sp4.2
    rw [show namedF (ks.map Kd.p) sp4.1 sp4.2 = (a4, b4) from hr4] at h9
    exact h9
  rw [show ((v3.setCell ⟨w.heap.size, 3, none⟩ (.int .i64 a3)).setCell ⟨w.heap.size + 1, 3, none⟩ (.bool b3)).heap.size = v3.heap.size from by simp [World.setCell]] at hf
  have HF4 := Lib.hid hf
  clear hf hr4
  go_wp2_with fail
  refine HF4.out.mono ?_
  rintro e v4 ⟨rfl, hbv⟩
  have HV4 := Lib.hid (HS4.out.next hbv)
  clear hbv HS4 HF4
  have m4 : v4.cell? ⟨w.heap.size, 4, none⟩ = some (.int .i64 0) := HV4.out.bx.cell 4
  have mf4 := HV4.out.bx.frozen 4
  have my4 : (v4.setCell ⟨w.heap.size, 4, none⟩ (.int .i64 a4)).cell? ⟨w.heap.size + 1, 4, none⟩ = some (.bool false) := (HV4.out.ly.far (by show w.heap.size + 1 ≠ w.heap.size; omega) _).cell 4
  have myf4 : (v4.setCell ⟨w.heap.size, 4, none⟩ (.int .i64 a4)).frozen? ⟨w.heap.size + 1, 4, none⟩ = false := (HV4.out.ly.far (by show w.heap.size + 1 ≠ w.heap.size; omega) _).frozen 4
  have HS5 : Hid (SpSt w ((v4.setCell ⟨w.heap.size, 4, none⟩ (.int .i64 a4)).setCell ⟨w.heap.size + 1, 4, none⟩ (.bool b4)) B A n c ks #[.int .i64 a0, .int .i64 a1, .int .i64 a2, .int .i64 a3, .int .i64 a4] #[.bool b0, .bool b1, .bool b2, .bool b3, .bool b4]) := Lib.hid (HV4.out.put 4 (.int .i64 a4) (.bool b4))
  clear HV0 HV1 HV2 HV3 HV4 m0 m1 m2 m3 mf0 mf1 mf2 mf3 my0 my1 my2 my3 myf0 myf1 myf2 myf3
  go_wp2_with fail
  clear m4 mf4 my4 myf4
  have HZ : Hid (w.heap.size ≠ w.heap.size + 1) := Lib.hid (by omega)
  generalize hv5 : (v4.setCell ⟨w.heap.size, 4, none⟩ (.int .i64 a4)).setCell ⟨w.heap.size + 1, 4, none⟩ (.bool b4) = v5 at *
  clear hv5
  have q0 : v5.cell? ⟨w.heap.size, 0, none⟩ = some (.int .i64 a0) := HS5.out.bx.cell 0
  have p0 : v5.cell? ⟨w.heap.size + 1, 0, none⟩ = some (.bool b0) := HS5.out.ly.cell 0
  have g0 : v5.frozen? ⟨w.heap.size, 0, none⟩ = false := HS5.out.bx.frozen 0
  have h0 : v5.frozen? ⟨w.heap.size + 1, 0, none⟩ = false := HS5.out.ly.frozen 0
  have q1 : v5.cell? ⟨w.heap.size, 1, none⟩ = some (.int .i64 a1) := HS5.out.bx.cell 1
  have p1 : v5.cell? ⟨w.heap.size + 1, 1, none⟩ = some (.bool b1) := HS5.out.ly.cell 1
  have g1 : v5.frozen? ⟨w.heap.size, 1, none⟩ = false := HS5.out.bx.frozen 1
  have h1 : v5.frozen? ⟨w.heap.size + 1, 1, none⟩ = false := HS5.out.ly.frozen 1
  have q2 : v5.cell? ⟨w.heap.size, 2, none⟩ = some (.int .i64 a2) := HS5.out.bx.cell 2
  have p2 : v5.cell? ⟨w.heap.size + 1, 2, none⟩ = some (.bool b2) := HS5.out.ly.cell 2
  have g2 : v5.frozen? ⟨w.heap.size, 2, none⟩ = false := HS5.out.bx.frozen 2
  have h2 : v5.frozen? ⟨w.heap.size + 1, 2, none⟩ = false := HS5.out.ly.frozen 2
  have q3 : v5.cell? ⟨w.heap.size, 3, none⟩ = some (.int .i64 a3) := HS5.out.bx.cell 3
  have p3 : v5.cell? ⟨w.heap.size + 1, 3, none⟩ = some (.bool b3) := HS5.out.ly.cell 3
  have g3 : v5.frozen? ⟨w.heap.size, 3, none⟩ = false := HS5.out.bx.frozen 3
  have h3 : v5.frozen? ⟨w.heap.size + 1, 3, none⟩ = false := HS5.out.ly.frozen 3
  have q4 : v5.cell? ⟨w.heap.size, 4, none⟩ = some (.int .i64 a4) := HS5.out.bx.cell 4
  have p4 : v5.cell? ⟨w.heap.size + 1, 4, none⟩ = some (.bool b4) := HS5.out.ly.cell 4
  have g4 : v5.frozen? ⟨w.heap.size, 4, none⟩ = false := HS5.out.bx.frozen 4
  have h4 : v5.frozen? ⟨w.heap.size + 1, 4, none⟩ = false := HS5.out.ly.frozen 4
  have hne : w.heap.size + 1 ≠ w.heap.size := by omega
  have hne' : w.heap.size ≠ w.heap.size + 1 := by omega
  go_region
  all_goals (try go_wp2)
  (try simp only [Exit.inBlock, Exit.then])
  refine bodyPost_ret (v := .tuple #[.agg #[.int .i64 a0, .int .i64 a1, .int .i64 a2, .int .i64 a3, .int .i64 a4], .agg #[.bool b0, .bool b1, .bool b2, .bool b3, .bool b4]]) ?_ rfl ⟨rfl, ?_⟩
  · rw [results_cell_cell rfl]
    go_simp
  · repeat' (first | with_reducible exact HS5.out.bl | (with_reducible refine Below.setCell ?_ ?_ _; rotate_left; (first | exact Nat.le_refl _ | exact Nat.le_succ _)) | (with_reducible refine Below.drew ?_))
/-! ### Km -/
def mapF (ks : List (ByteArray × List Fd)) : (Int × Int × Int) × Int :=
  if checkF ks ≠ 0 then ((0, 0, 0), checkF ks) else
  if (spec ks sp0).2 && (spec ks sp1).2 && (spec ks sp2).2 then (((spec ks sp0).1, (spec ks sp1).1, (spec ks sp2).1), 0) else ((0, 0, 0), 8)
set_option maxHeartbeats 1600000 in
theorem mapFault_any {w : World} {B n c : Nat} {A : Option Addr} {ks : List Kd} (h : KsOk w B A n c ks) (hsm : checkF (ks.map Kd.p) = 0 → ∀ k ∈ ks, k.n ≤ 1048576) : Calls Try.prog 20 #[.slice A n c] w (OfP w (mapF (ks.map Kd.p))) := by
  obtain ⟨R, hR⟩ : ∃ R, R = mapF (ks.map Kd.p) := ⟨_, rfl⟩
  rw [← hR]
  have HR := Lib.hid hR
  have HSM := Lib.hid hsm
  obtain ⟨w1, hw1⟩ : ∃ w1, w1 = w.alloc (.cells #[.int .i64 0, .int .i64 0, .int .i64 0] 24) := ⟨_, rfl⟩
  have hb1 : Below w.heap.size w w1 := by rw [hw1]; exact (Below.refl _ w).alloc (Nat.le_refl _) _
  have hk1 : Bk w1 w.heap.size 24 #[.int .i64 0, .int .i64 0, .int .i64 0] := by rw [hw1]; exact Bk.new _ _ _
  have h1 := h.below (hb1.mono h.lo)
  have hck := check_any A n c B ks w1 h1.rd h1.len h1.cap h1.cap2 h1.ok h1.lo
  have HCK := Lib.hid hck
  have H1 := Lib.hid h1
  have HB1 := Lib.hid hb1
  have HK1 := Lib.hid hk1
  clear hR hb1 hk1 h1 hck hsm
  go_enter Try.func20, Try.ntmps20
  go_wp2_with fail
  rw [← hw1]
  clear hw1
  refine HCK.out.mono ?_
  rintro e w2 ⟨rfl, hb2⟩
  have HB2 := Lib.hid (HB1.out.trans (hb2.mono HB1.out.size))
  have HK2 := Lib.hid (HK1.out.below hb2 HK1.out.lt)
  have H2 := Lib.hid (H1.out.below (hb2.mono H1.out.lo))
  clear hb2
  have hR2 := HR.out
  rw [mapF] at hR2
  generalize hcv : checkF (ks.map Kd.p) = cv at *
  by_cases hc0 : cv = 0
  · subst hc0
    rw [if_neg (by simp)] at hR2
    have hsp := special_any H2.out (HSM.out rfl)
    unfold SpecP spX spY at hsp
    generalize spec (ks.map Kd.p) sp0 = r0 at *
    generalize spec (ks.map Kd.p) sp1 = r1 at *
    generalize spec (ks.map Kd.p) sp2 = r2 at *
    generalize spec (ks.map Kd.p) sp3 = r3 at *
    generalize spec (ks.map Kd.p) sp4 = r4 at *
    obtain ⟨a0, b0⟩ := r0
    obtain ⟨a1, b1⟩ := r1
    obtain ⟨a2, b2⟩ := r2
    obtain ⟨a3, b3⟩ := r3
    obtain ⟨a4, b4⟩ := r4
    have HSP := Lib.hid hsp
    have HR2 := Lib.hid hR2
    clear hsp hR2 HR HSM HCK hcv
    go_wp2_with fail
    refine HSP.out.mono ?_
    rintro e w3 ⟨rfl, hb3⟩
    have hk3 := HK2.out.below hb3 HK2.out.lt
    have hb4 := HB2.out.trans (hb3.mono HB2.out.size)
    have hk5 := (hk3.alloc (.cells #[.int .i64 a0, .int .i64 a1, .int .i64 a2, .int .i64 a3, .int .i64 a4] 141)).alloc (.cells #[.bool b0, .bool b1, .bool b2, .bool b3, .bool b4] 142)
    have hb5 := (hb4.alloc hb4.size (.cells #[.int .i64 a0, .int .i64 a1, .int .i64 a2, .int .i64 a3, .int .i64 a4] 141)).alloc (by have := hb4.size; simp; omega) (.cells #[.bool b0, .bool b1, .bool b2, .bool b3, .bool b4] 142)
    have HB5 := Lib.hid hb5
    have q0 := hk5.cell 0
    have q1 := hk5.cell 1
    have q2 := hk5.cell 2
    have g0 := hk5.frozen 0
    have g1 := hk5.frozen 1
    have g2 := hk5.frozen 2
    simp only [List.getElem?_toArray, List.getElem?_cons_zero, List.getElem?_cons_succ] at q0 q1 q2
    clear hk3 hb4 hk5 hb5 hb3 HSP
    cases b0 <;> cases b1 <;> cases b2 <;>
    · go_wp2_with fail
      (try simp only [Exit.inBlock, Exit.then])
      first
        | (refine bodyPost_ret (v := .tuple #[.agg #[.int .i64 0, .int .i64 0, .int .i64 0], .int .i64 8]) ?_ rfl ⟨by rw [HR2.out]; rfl, ?_⟩
           · rw [results_cell_tmp rfl]
             go_simp
           · repeat' (first | with_reducible exact HB5.out | (with_reducible refine Below.setCell ?_ ?_ _; rotate_left; exact Nat.le_refl _)))
        | (refine bodyPost_ret (v := .tuple #[.agg #[.int .i64 a0, .int .i64 a1, .int .i64 a2], .int .i64 0]) ?_ rfl ⟨by rw [HR2.out]; rfl, ?_⟩
           · rw [results_cell_tmp rfl]
             go_simp
           · repeat' (first | with_reducible exact HB5.out | (with_reducible refine Below.setCell ?_ ?_ _; rotate_left; exact Nat.le_refl _)))
  · have hcb : (cv != 0) = true := by simp [hc0]
    rw [if_pos (by exact hc0)] at hR2
    have q0 := HK2.out.cell 0
    have q1 := HK2.out.cell 1
    have q2 := HK2.out.cell 2
    have g0 := HK2.out.frozen 0
    have g1 := HK2.out.frozen 1
    have g2 := HK2.out.frozen 2
    simp only [List.getElem?_toArray, List.getElem?_cons_zero, List.getElem?_cons_succ] at q0 q1 q2
    go_wp2_with fail
    (try simp only [Exit.inBlock, Exit.then])
    refine bodyPost_ret (v := .tuple #[.agg #[.int .i64 0, .int .i64 0, .int .i64 0], .int .i64 cv]) ?_ rfl ⟨by rw [hR2], ?_⟩
    · rw [results_cell_tmp rfl]
      go_simp
    · repeat' (first | with_reducible exact HB2.out | (with_reducible refine Below.setCell ?_ ?_ _; rotate_left; exact Nat.le_refl _))
/-! ### Kn -/
theorem bfind_named (ks : List (ByteArray × List Fd)) (nm : ByteArray) (ns : List ByteArray) :
    ((bfindF ks nm ns).2 = if (namedF ks nm ns).2 then 0 else 8) ∧ ((namedF ks nm ns).2 = true → (bfindF ks nm ns).1 = (namedF ks nm ns).1) := by
  unfold bfindF namedF
  rcases findF_range (ks.map (·.1)) nm with h | ⟨i, h, hi⟩
  · simp [h]
  · rw [List.length_map] at hi
    have hni : ¬ ((i : Int) < 0) := by omega
    obtain ⟨k, hk⟩ : ∃ k, ks[i]? = some k := ⟨_, List.getElem?_eq_getElem hi⟩
    simp only [h, if_neg hni, Int.toNat_natCast, hk]
    by_cases he : k.2.map Fd.nm = ns
    · simp [he]
    · simp [he]
theorem of_is_map (ks : List (ByteArray × List Fd)) : ofF ks = mapF ks := by
  have h0 := bfind_named ks sPlace nPlace
  have h1 := bfind_named ks sMotion nMotion
  have h2 := bfind_named ks sShape nShape
  have e0 : spec ks sp0 = namedF ks sPlace nPlace := rfl
  have e1 : spec ks sp1 = namedF ks sMotion nMotion := rfl
  have e2 : spec ks sp2 = namedF ks sShape nShape := rfl
  unfold ofF mapF
  rw [e0, e1, e2]
  generalize bfindF ks sPlace nPlace = p0 at *
  generalize bfindF ks sMotion nMotion = p1 at *
  generalize bfindF ks sShape nShape = p2 at *
  generalize namedF ks sPlace nPlace = n0 at *
  generalize namedF ks sMotion nMotion = n1 at *
  generalize namedF ks sShape nShape = n2 at *
  obtain ⟨a0, b0⟩ := p0
  obtain ⟨a1, b1⟩ := p1
  obtain ⟨a2, b2⟩ := p2
  obtain ⟨c0, d0⟩ := n0
  obtain ⟨c1, d1⟩ := n1
  obtain ⟨c2, d2⟩ := n2
  cases d0 <;> cases d1 <;> cases d2 <;> simp_all
end Go.Proofs.Ytnidcmhfbkdioaa
