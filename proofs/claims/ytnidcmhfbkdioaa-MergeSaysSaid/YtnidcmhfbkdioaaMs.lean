/-
  The contract of merge.Three at three valid worlds of the same kinds. Conditions: what is read can be read.
-/
import Derived.Test.YtnidcmhfbkdioaaMp
import Derived.Test.YtnidcmhfbkdioaaMq
import Derived.Test.YtnidcmhfbkdioaaMc
namespace Go.Proofs.Ytnidcmhfbkdioaa
open Go.RowKit
set_option maxRecDepth 100000

def wdL (V : Wd) : List Value := [.slice V.kA V.kn V.kc, .slice V.gA V.gn V.gc, .slice V.iA V.im V.ic]
theorem bk_wd3 {wr : World} {g : Nat} {V1 V2 V3 : Wd} (h : Bk wr g 52 #[.slice V1.kA V1.kn V1.kc, .slice V1.gA V1.gn V1.gc, .slice V1.iA V1.im V1.ic, .slice V2.kA V2.kn V2.kc, .slice V2.gA V2.gn V2.gc, .slice V2.iA V2.im V2.ic, .slice V3.kA V3.kn V3.kc, .slice V3.gA V3.gn V3.gc, .slice V3.iA V3.im V3.ic])
    {i : Nat} {V : Wd} (hi : [V1, V2, V3][i]? = some V) : wr.cell? ⟨g, i * 3, none⟩ = some (.slice V.kA V.kn V.kc) ∧ wr.cell? ⟨g, i * 3 + 1, none⟩ = some (.slice V.gA V.gn V.gc) ∧ wr.cell? ⟨g, i * 3 + 2, none⟩ = some (.slice V.iA V.im V.ic) := by
  have hlt : i < 3 := by simpa using (List.getElem?_eq_some_iff.1 hi).1
  rcases (show i = 0 ∨ i = 1 ∨ i = 2 by omega) with rfl | rfl | rfl
  all_goals
    injection hi with hi
    subst hi
    exact ⟨h.cell _, h.cell _, h.cell _⟩
theorem bk_wd2 {wr : World} {g : Nat} {V1 V2 : Wd} (h : Bk wr g 52 #[.slice V1.kA V1.kn V1.kc, .slice V1.gA V1.gn V1.gc, .slice V1.iA V1.im V1.ic, .slice V2.kA V2.kn V2.kc, .slice V2.gA V2.gn V2.gc, .slice V2.iA V2.im V2.ic])
    {i : Nat} {V : Wd} (hi : [V1, V2][i]? = some V) : wr.cell? ⟨g, i * 3, none⟩ = some (.slice V.kA V.kn V.kc) ∧ wr.cell? ⟨g, i * 3 + 1, none⟩ = some (.slice V.gA V.gn V.gc) ∧ wr.cell? ⟨g, i * 3 + 2, none⟩ = some (.slice V.iA V.im V.ic) := by
  have hlt : i < 2 := by simpa using (List.getElem?_eq_some_iff.1 hi).1
  rcases (show i = 0 ∨ i = 1 by omega) with rfl | rfl
  all_goals
    injection hi with hi
    subst hi
    exact ⟨h.cell _, h.cell _, h.cell _⟩

/-- The frame of merge.Three's main loop. -/
structure TI (h m ho : Nat) (wr : World) (B : Nat) (O X Y : Wd) (kA : Option Addr) (kn kc : Nat) (ks : List Kd) (GA : Option Addr) (n gc : Nat) (G : List Int) (IA : Option Addr) (q ic : Nat) (its : List It) : Prop where
  bO : Bk wr h 52 #[.slice O.kA O.kn O.kc, .slice O.gA O.gn O.gc, .slice O.iA O.im O.ic]
  bX : Bk wr (h + 1) 52 #[.slice X.kA X.kn X.kc, .slice X.gA X.gn X.gc, .slice X.iA X.im X.ic]
  bY : Bk wr (h + 2) 52 #[.slice Y.kA Y.kn Y.kc, .slice Y.gA Y.gn Y.gc, .slice Y.iA Y.im Y.ic]
  bR : Bk wr (h + 3) 52 #[.slice none 0 0, .slice none 0 0, .slice none 0 0]
  bo : Bk wr ho 52 #[.slice kA kn kc, .slice GA n gc, .slice IA q ic]
  ks : KsY wr 0 kA kn kc ks
  gown : wr.ownsRow m 3 1 (.slice GA n gc) n (G.map (Value.int .i64))
  iown : wr.ownsRow m 147 3 (.slice IA q ic) q (itCs its)
  len : q = its.length
  iok : ∀ it ∈ its, ItY wr B it
  nob : ∀ it ∈ its, NoB (Value.slice GA n gc).ownBlock it.cms
  hho : h + 3 < ho
section
variable {h m ho : Nat} {wr w' : World} {B : Nat} {O X Y : Wd} {kA : Option Addr} {kn kc : Nat} {ks : List Kd} {GA : Option Addr} {n gc : Nat} {G : List Int} {IA : Option Addr} {q ic : Nat} {its : List It}
theorem TI.kx {F : List TypeId} (H : TI h m ho wr B O X Y kA kn kc ks GA n gc G IA q ic its) (hq : Kx B F wr w') (h52 : (52 : TypeId) ∉ F) (h63 : (63 : TypeId) ∉ F) (h66 : (66 : TypeId) ∉ F) (h3 : (3 : TypeId) ∉ F) (h147 : (147 : TypeId) ∉ F) (h166 : (166 : TypeId) ∉ F) : TI h m ho w' B O X Y kA kn kc ks GA n gc G IA q ic its :=
  ⟨hq.bk H.bO h52, hq.bk H.bX h52, hq.bk H.bY h52, hq.bk H.bR h52, hq.bk H.bo h52, H.ks.keep (hq.mono (Nat.zero_le _) (fun _ h => h)) h66 h63, hq.own H.gown h3, hq.own H.iown h147, H.len, fun it hit => (H.iok it hit).keep hq h3 h166, H.nob, H.hho⟩
theorem TI.item (H : TI h m ho wr B O X Y kA kn kc ks GA n gc G IA q ic its) {w8 : World} {g8 c8 : Nat} {it : It} {o : Obj} (hi : ItY wr B it) (hno : NoB (Value.slice GA n gc).ownBlock it.cms) (hB : B ≤ m)
    (hown8 : w8.ownsRow m 147 3 (.slice (some ⟨g8, 0, none⟩) (q + 1) c8) (q + 1) (itCs its ++ [.int .i64 it.e, .int .i64 it.g, .slice it.A it.n it.c])) (hg8 : (wr.alloc o).grownBy w8 (Value.slice IA q ic).ownBlock) (hmh : m ≤ ho) :
    TI h m ho (w8.setCell ⟨ho, 2, none⟩ (.slice (some ⟨g8, 0, none⟩) (q + 1) c8)) B O X Y kA kn kc ks GA n gc G (some ⟨g8, 0, none⟩) (q + 1) c8 (its ++ [it]) ∧ Kx B [147, 52] wr (w8.setCell ⟨ho, 2, none⟩ (.slice (some ⟨g8, 0, none⟩) (q + 1) c8)) := by
  have hq7 : Kx B [147] wr w8 := ((Kx.refl (B := B)).alloc _).grown (H.iown.alloc _) hg8 hB (by simp)
  have bo := hq7.bk H.bo (by decide)
  have hset : Kx B [52] w8 (w8.setCell ⟨ho, 2, none⟩ (.slice (some ⟨g8, 0, none⟩) (q + 1) c8)) := Kx.set Kx.refl bo (by omega) (by simp) 2 _
  have hh := H.hho
  refine ⟨⟨(hq7.bk H.bO (by decide)).far (p := ⟨ho, 2, none⟩) (by show h ≠ ho; omega) _, (hq7.bk H.bX (by decide)).far (p := ⟨ho, 2, none⟩) (by show h + 1 ≠ ho; omega) _, (hq7.bk H.bY (by decide)).far (p := ⟨ho, 2, none⟩) (by show h + 2 ≠ ho; omega) _, (hq7.bk H.bR (by decide)).far (p := ⟨ho, 2, none⟩) (by show h + 3 ≠ ho; omega) _, by simpa using bo.set_ 2 (.slice (some ⟨g8, 0, none⟩) (q + 1) c8),
    (H.ks.keep (hq7.mono (Nat.zero_le _) (fun _ h => h)) (by decide) (by decide)).keep (hset.mono (Nat.zero_le _) (fun _ h => h)) (by decide) (by decide), hset.own (hq7.own H.gown (by decide)) (by decide), ?_, by simp [H.len], fun x hx => ?_, fun x hx => ?_, H.hho⟩, (hq7.mono (Nat.le_refl _) (by simp)).trans (hset.mono (Nat.le_refl _) (by simp))⟩
  · rw [itCs_snoc]; exact hset.own hown8 (by decide)
  · rcases List.mem_append.1 hx with hx | hx
    · exact ((H.iok x hx).keep hq7 (by decide) (by decide)).keep hset (by decide) (by decide)
    · rw [show x = it by simpa using hx]; exact (hi.keep hq7 (by decide) (by decide)).keep hset (by decide) (by decide)
  · rcases List.mem_append.1 hx with hx | hx
    · exact H.nob x hx
    · rw [show x = it by simpa using hx]; exact hno
theorem TI.gen (H : TI h m ho wr B O X Y kA kn kc ks GA n gc G IA q ic its) {w9 : World} {g9 c9 : Nat} {gg : Int} {o : Obj} (hB : B ≤ m)
    (hown9 : w9.ownsRow m 3 1 (.slice (some ⟨g9, 0, none⟩) (n + 1) c9) (n + 1) (G.map (Value.int .i64) ++ [.int .i64 gg])) (hg9 : (wr.alloc o).grownBy w9 (Value.slice GA n gc).ownBlock) (hat : (Value.slice GA n gc).ownBlock = some g9 ∨ g9 = (wr.alloc o).heap.size) (hmh : m ≤ ho) :
    TI h m ho (w9.setCell ⟨ho, 1, none⟩ (.slice (some ⟨g9, 0, none⟩) (n + 1) c9)) B O X Y kA kn kc ks (some ⟨g9, 0, none⟩) (n + 1) c9 (G ++ [gg]) IA q ic its ∧ Kx B [3, 52] wr (w9.setCell ⟨ho, 1, none⟩ (.slice (some ⟨g9, 0, none⟩) (n + 1) c9)) := by
  have hal : Kx B [3] wr (wr.alloc o) := (Kx.refl (B := B)).alloc _
  have hq7 : Kx B [3] wr w9 := hal.grown (H.gown.alloc _) hg9 hB (by simp)
  have bo := hq7.bk H.bo (by decide)
  have hset : Kx B [52] w9 (w9.setCell ⟨ho, 1, none⟩ (.slice (some ⟨g9, 0, none⟩) (n + 1) c9)) := Kx.set Kx.refl bo (by omega) (by simp) 1 _
  have hh := H.hho
  have hal0 : Kx B [] wr (wr.alloc o) := (Kx.refl (B := B)).alloc _
  refine ⟨⟨(hq7.bk H.bO (by decide)).far (p := ⟨ho, 1, none⟩) (by show h ≠ ho; omega) _, (hq7.bk H.bX (by decide)).far (p := ⟨ho, 1, none⟩) (by show h + 1 ≠ ho; omega) _, (hq7.bk H.bY (by decide)).far (p := ⟨ho, 1, none⟩) (by show h + 2 ≠ ho; omega) _, (hq7.bk H.bR (by decide)).far (p := ⟨ho, 1, none⟩) (by show h + 3 ≠ ho; omega) _, by simpa using bo.set_ 1 (.slice (some ⟨g9, 0, none⟩) (n + 1) c9),
    (H.ks.keep (hq7.mono (Nat.zero_le _) (fun _ h => h)) (by decide) (by decide)).keep (hset.mono (Nat.zero_le _) (fun _ h => h)) (by decide) (by decide), ?_, hset.own (hq7.own H.iown (by decide)) (by decide), H.len, fun x hx => ?_, fun x hx => ?_, H.hho⟩, (hq7.mono (Nat.le_refl _) (by simp)).trans (hset.mono (Nat.le_refl _) (by simp))⟩
  · rw [List.map_append]; exact hset.own hown9 (by decide)
  · exact (((H.iok x hx).keep hal0 (by simp) (by simp)).grown3 (H.gown.alloc _) hg9 hB (H.nob x hx)).keep hset (by decide) (by decide)
  · refine NoB.grown ((H.iok x hx).keep hal0 (by simp) (by simp)) (H.nob x hx) ?_
    rcases hat with h1 | h1
    · exact .inl h1.symm
    · exact .inr (by rw [h1]; rfl)
end
def gAcc (a b c : Int) : Nat → Int
  | 0 => 0
  | 1 => max 0 a
  | 2 => max (max 0 a) b
  | _ => max (max (max 0 a) b) c
theorem gAcc_step {a b c : Int} {i : Nat} {v : Int} (h : [a, b, c][i]? = some v) : gAcc a b c (i + 1) = max (gAcc a b c i) v := by
  have hlt : i < 3 := by simpa using (List.getElem?_eq_some_iff.1 h).1
  rcases (show i = 0 ∨ i = 1 ∨ i = 2 by omega) with rfl | rfl | rfl <;> (injection h with h; subst h; rfl)
theorem gAcc_pos {a b c : Int} (i : Nat) : 0 ≤ gAcc a b c i := by
  rcases (show i = 0 ∨ i = 1 ∨ i = 2 ∨ 3 ≤ i by omega) with rfl | rfl | rfl | h
  · exact Int.le_refl _
  · show 0 ≤ max 0 a; omega
  · show 0 ≤ max (max 0 a) b; omega
  · obtain ⟨j, rfl⟩ : ∃ j, i = j + 3 := ⟨i - 3, by omega⟩
    show 0 ≤ max (max (max 0 a) b) c; omega
theorem results_c3 {fn : Func} {p u v : Tmp} {ty : TypeId} (h : fn.results = #[.cell p ty, .tmp u, .tmp v]) (tmps : Array Value) (P : Program) (w : World) :
    (results fn tmps).run P w =
      ((asAddr (tmps.getD p undef)).run P w).andThen fun a w₁ => ((loadVar ty a).run P w₁).andThen fun x w₂ => .ok (.tuple #[x, tmps.getD u undef, tmps.getD v undef]) w₂ := by
  simp only [results, h]
  simp [Sem.run_bind, Result.andThen]

def L3 (m ho N : Nat) (w : World) (B : Nat) (O X Y : Wd) (ykA : Option Addr) (ykn ykc : Nat) (yks : List Kd) (nv : Value) (wr : World) : Prop :=
  ∃ (n q gc ic : Nat) (GA IA : Option Addr) (its : List It), n ≤ N ∧ q ≤ n ∧ nv = .int .i64 n ∧ Hid (TI w.heap.size m ho wr B O X Y ykA ykn ykc yks GA n gc (gensF O.p X.p Y.p n) IA q ic its) ∧ Hid (its.map It.p = itsF O.kn O.p.its X.p.its Y.p.its n) ∧ Hid (MgSt wr m m (clsF O.kn O.p.its X.p.its Y.p.its n)) ∧ Hid (Below w.heap.size w wr)

set_option maxHeartbeats 6400000 in
theorem three_ok {w : World} {B : Nat} {O X Y : Wd} (hO : WdOk w B O) (hX : WdOk w B X) (hY : WdOk w B Y) (cO : wcheckF O.p = 0) (cX : wcheckF X.p = 0) (cY : wcheckF Y.p = 0) (kX : X.p.ks = O.p.ks) (kY : Y.p.ks = O.p.ks) :
    Calls Try.prog 31 #[O.v, X.v, Y.v] w fun e w' => ∃ (Z : Wd) (CA : Option Addr) (n c : Nat), e = .returned (.tuple #[Z.v, .slice CA n c, .int .i64 0]) ∧ Hid (WdY w' 0 Z ∧ Z.p = mergeF O.p X.p Y.p) ∧ Hid (n = (mergeC O.p X.p Y.p).length ∧ n ≤ c ∧ c ≤ 9223372036854775807 ∧ RdY w' 0 73 4 CA n (clCs (mergeC O.p X.p Y.p))) ∧ Below w.heap.size w w' := by
  show Calls Try.prog 31 #[.agg #[.slice O.kA O.kn O.kc, .slice O.gA O.gn O.gc, .slice O.iA O.im O.ic], .agg #[.slice X.kA X.kn X.kc, .slice X.gA X.gn X.gc, .slice X.iA X.im X.ic], .agg #[.slice Y.kA Y.kn Y.kc, .slice Y.gA Y.gn Y.gc, .slice Y.iA Y.im Y.ic]] w _
  obtain ⟨W0, hW0⟩ : ∃ W0, W0 = (((w.alloc (.cells #[.slice O.kA O.kn O.kc, .slice O.gA O.gn O.gc, .slice O.iA O.im O.ic] 52)).alloc (.cells #[.slice X.kA X.kn X.kc, .slice X.gA X.gn X.gc, .slice X.iA X.im X.ic] 52)).alloc (.cells #[.slice Y.kA Y.kn Y.kc, .slice Y.gA Y.gn Y.gc, .slice Y.iA Y.im Y.ic] 52)).alloc (.cells #[.slice none 0 0, .slice none 0 0, .slice none 0 0] 52) := ⟨_, rfl⟩
  have hb0 : Below w.heap.size w W0 := by rw [hW0]; exact Below.al (Below.al (Below.al (Below.al (Below.refl _ _) _) _) _) _
  have k0 : Bk W0 w.heap.size 52 #[.slice O.kA O.kn O.kc, .slice O.gA O.gn O.gc, .slice O.iA O.im O.ic] := by rw [hW0]; exact (((Bk.new w 52 _).alloc _).alloc _).alloc _
  have k1 : Bk W0 (w.heap.size + 1) 52 #[.slice X.kA X.kn X.kc, .slice X.gA X.gn X.gc, .slice X.iA X.im X.ic] := by rw [hW0]; exact ((Bk.two w _ 52 _).alloc _).alloc _
  have k2 : Bk W0 (w.heap.size + 2) 52 #[.slice Y.kA Y.kn Y.kc, .slice Y.gA Y.gn Y.gc, .slice Y.iA Y.im Y.ic] := by rw [hW0]; exact (Bk.three w _ _ 52 _).alloc _
  have k3 : Bk W0 (w.heap.size + 3) 52 #[.slice none 0 0, .slice none 0 0, .slice none 0 0] := by rw [hW0]; simpa using Bk.new (((w.alloc (.cells #[.slice O.kA O.kn O.kc, .slice O.gA O.gn O.gc, .slice O.iA O.im O.ic] 52)).alloc (.cells #[.slice X.kA X.kn X.kc, .slice X.gA X.gn X.gc, .slice X.iA X.im X.ic] 52)).alloc (.cells #[.slice Y.kA Y.kn Y.kc, .slice Y.gA Y.gn Y.gc, .slice Y.iA Y.im Y.ic] 52)) 52 #[.slice none 0 0, .slice none 0 0, .slice none 0 0]
  have hsz0 : W0.heap.size = w.heap.size + 4 := by rw [hW0]; simp
  obtain ⟨W1, hW1⟩ : ∃ W1, W1 = W0.alloc (.cells #[.slice O.kA O.kn O.kc, .slice O.gA O.gn O.gc, .slice O.iA O.im O.ic, .slice X.kA X.kn X.kc, .slice X.gA X.gn X.gc, .slice X.iA X.im X.ic, .slice Y.kA Y.kn Y.kc, .slice Y.gA Y.gn Y.gc, .slice Y.iA Y.im Y.ic] 52) := ⟨_, rfl⟩
  have hW1' := hW1
  rw [hW0] at hW1'
  have hb1 : Below w.heap.size w W1 := by rw [hW1]; exact Below.al hb0 _
  have k4 : Bk W1 (w.heap.size + 4) 52 #[.slice O.kA O.kn O.kc, .slice O.gA O.gn O.gc, .slice O.iA O.im O.ic, .slice X.kA X.kn X.kc, .slice X.gA X.gn X.gc, .slice X.iA X.im X.ic, .slice Y.kA Y.kn Y.kc, .slice Y.gA Y.gn Y.gc, .slice Y.iA Y.im Y.ic] := by rw [hW1, ← hsz0]; exact Bk.new _ _ _
  have q0 : Bk W1 w.heap.size 52 #[.slice O.kA O.kn O.kc, .slice O.gA O.gn O.gc, .slice O.iA O.im O.ic] := by rw [hW1]; exact k0.alloc _
  have q1 : Bk W1 (w.heap.size + 1) 52 #[.slice X.kA X.kn X.kc, .slice X.gA X.gn X.gc, .slice X.iA X.im X.ic] := by rw [hW1]; exact k1.alloc _
  have q2 : Bk W1 (w.heap.size + 2) 52 #[.slice Y.kA Y.kn Y.kc, .slice Y.gA Y.gn Y.gc, .slice Y.iA Y.im Y.ic] := by rw [hW1]; exact k2.alloc _
  have q3 : Bk W1 (w.heap.size + 3) 52 #[.slice none 0 0, .slice none 0 0, .slice none 0 0] := by rw [hW1]; exact k3.alloc _
  have hBw : B ≤ w.heap.size := hO.ks.lo
  have HBX := Lib.hid (And.intro q0 (And.intro q1 (And.intro q2 q3)))
  have H4 := Lib.hid k4
  have HB1 := Lib.hid hb1
  have HO := Lib.hid hO
  have HX := Lib.hid hX
  have HY := Lib.hid hY
  have HCC := Lib.hid (And.intro cO (And.intro cX (And.intro cY (And.intro kX kY))))
  clear hO hX hY cO cX cY kX kY hb0 k0 k1 k2 k3 hsz0 hb1 k4 q0 q1 q2 q3
  go_enter Try.func31, Try.ntmps31
  go_wp2_with fail
  rw [← hW1']
  clear hW1' hW1 hW0
  go_loopw [27] (fun iv wr => ∃ i : Nat, i ≤ 3 ∧ iv = .int .i64 i ∧ Hid (Below W1.heap.size W1 wr)) (fun iv _ => 3 - (intOf iv).toNat)
  case atStart => exact ⟨0, by omega, rfl, Lib.hid (Below.refl _ _)⟩
  case round =>
    obtain ⟨i, hi, rfl, HW⟩ := hrel
    by_cases hlt : i < 3
    · have hz : (i : Int) < 3 := by omega
      obtain ⟨V, hV, hok, hck⟩ : ∃ V, [O, X, Y][i]? = some V ∧ WdOk w B V ∧ wcheckF V.p = 0 := by
        rcases (show i = 0 ∨ i = 1 ∨ i = 2 by omega) with rfl | rfl | rfl
        · exact ⟨O, rfl, HO.out, HCC.out.1⟩
        · exact ⟨X, rfl, HX.out, HCC.out.2.1⟩
        · exact ⟨Y, rfl, HY.out, HCC.out.2.2.1⟩
      obtain ⟨c0, c1, c2⟩ := bk_wd3 (H4.out.below HW.out H4.out.lt) hV
      have hb2 : Below w.heap.size w (wr.alloc (.cells #[.slice V.kA V.kn V.kc, .slice V.gA V.gn V.gc, .slice V.iA V.im V.ic] 52)) := Below.al (HB1.out.trans (HW.out.mono HB1.out.size)) _
      have HCK : Hid (Calls Try.prog 32 #[.agg #[.slice V.kA V.kn V.kc, .slice V.gA V.gn V.gc, .slice V.iA V.im V.ic]] (wr.alloc (.cells #[.slice V.kA V.kn V.kc, .slice V.gA V.gn V.gc, .slice V.iA V.im V.ic] 52)) fun e w' => e = .returned (.int .i64 0) ∧ Below (wr.alloc (.cells #[.slice V.kA V.kn V.kc, .slice V.gA V.gn V.gc, .slice V.iA V.im V.ic] 52)).heap.size (wr.alloc (.cells #[.slice V.kA V.kn V.kc, .slice V.gA V.gn V.gc, .slice V.iA V.im V.ic] 52)) w') := Lib.hid (by have h := wcheck_any (hok.below (hb2.mono hBw)); rw [hck] at h; exact h)
      have HW2 : Hid (Below W1.heap.size W1 (wr.alloc (.cells #[.slice V.kA V.kn V.kc, .slice V.gA V.gn V.gc, .slice V.iA V.im V.ic] 52))) := Lib.hid (Below.al HW.out _)
      clear hok hck hV hb2
      go_wp2_with fail
      (with_reducible refine HCK.out.mono ?_)
      rintro e w3 ⟨rfl, hb3⟩
      have HW3 : Hid (Below W1.heap.size W1 w3) := Lib.hid (Below.tr HW2.out hb3)
      clear hb3 HCK HW2 c0 c1 c2
      go_wp2_with fail
      go_roundw
      case rel => exact ⟨i + 1, by omega, by go_num, HW3⟩
      case measure => simp [intOf]; omega
    · obtain rfl : i = 3 := by omega
      have HBX2 : Hid (Bk wr w.heap.size 52 #[.slice O.kA O.kn O.kc, .slice O.gA O.gn O.gc, .slice O.iA O.im O.ic] ∧ Bk wr (w.heap.size + 1) 52 #[.slice X.kA X.kn X.kc, .slice X.gA X.gn X.gc, .slice X.iA X.im X.ic] ∧ Bk wr (w.heap.size + 2) 52 #[.slice Y.kA Y.kn Y.kc, .slice Y.gA Y.gn Y.gc, .slice Y.iA Y.im Y.ic] ∧ Bk wr (w.heap.size + 3) 52 #[.slice none 0 0, .slice none 0 0, .slice none 0 0]) := Lib.hid ⟨HBX.out.1.below HW.out HBX.out.1.lt, HBX.out.2.1.below HW.out HBX.out.2.1.lt, HBX.out.2.2.1.below HW.out HBX.out.2.2.1.lt, HBX.out.2.2.2.below HW.out HBX.out.2.2.2.lt⟩
      have HB2 : Hid (Below w.heap.size w wr) := Lib.hid (HB1.out.trans (HW.out.mono HB1.out.size))
      clear HBX HB1 HW H4
      have x0 : wr.cell? ⟨w.heap.size + 1, 0, none⟩ = some (.slice X.kA X.kn X.kc) := HBX2.out.2.1.cell 0
      have x1 : wr.cell? ⟨w.heap.size + 1, 1, none⟩ = some (.slice X.gA X.gn X.gc) := HBX2.out.2.1.cell 1
      have x2 : wr.cell? ⟨w.heap.size + 1, 2, none⟩ = some (.slice X.iA X.im X.ic) := HBX2.out.2.1.cell 2
      have y0 : wr.cell? ⟨w.heap.size + 2, 0, none⟩ = some (.slice Y.kA Y.kn Y.kc) := HBX2.out.2.2.1.cell 0
      have y1 : wr.cell? ⟨w.heap.size + 2, 1, none⟩ = some (.slice Y.gA Y.gn Y.gc) := HBX2.out.2.2.1.cell 1
      have y2 : wr.cell? ⟨w.heap.size + 2, 2, none⟩ = some (.slice Y.iA Y.im Y.ic) := HBX2.out.2.2.1.cell 2
      obtain ⟨W2, hW2⟩ : ∃ W2, W2 = wr.alloc (.cells #[.slice X.kA X.kn X.kc, .slice X.gA X.gn X.gc, .slice X.iA X.im X.ic, .slice Y.kA Y.kn Y.kc, .slice Y.gA Y.gn Y.gc, .slice Y.iA Y.im Y.ic] 52) := ⟨_, rfl⟩
      have H5 : Hid (Bk W2 wr.heap.size 52 #[.slice X.kA X.kn X.kc, .slice X.gA X.gn X.gc, .slice X.iA X.im X.ic, .slice Y.kA Y.kn Y.kc, .slice Y.gA Y.gn Y.gc, .slice Y.iA Y.im Y.ic]) := Lib.hid (by rw [hW2]; exact Bk.new _ _ _)
      have HBX3 : Hid (Bk W2 w.heap.size 52 #[.slice O.kA O.kn O.kc, .slice O.gA O.gn O.gc, .slice O.iA O.im O.ic] ∧ Bk W2 (w.heap.size + 1) 52 #[.slice X.kA X.kn X.kc, .slice X.gA X.gn X.gc, .slice X.iA X.im X.ic] ∧ Bk W2 (w.heap.size + 2) 52 #[.slice Y.kA Y.kn Y.kc, .slice Y.gA Y.gn Y.gc, .slice Y.iA Y.im Y.ic] ∧ Bk W2 (w.heap.size + 3) 52 #[.slice none 0 0, .slice none 0 0, .slice none 0 0]) := Lib.hid (by rw [hW2]; exact ⟨HBX2.out.1.alloc _, HBX2.out.2.1.alloc _, HBX2.out.2.2.1.alloc _, HBX2.out.2.2.2.alloc _⟩)
      have HB3 : Hid (Below w.heap.size w W2) := Lib.hid (by rw [hW2]; exact Below.al HB2.out _)
      clear HBX2 HB2
      go_wp2_with fail
      rw [← hW2]
      clear hW2 x0 x1 x2 y0 y1 y2
      go_loopw [42] (fun iv wr => ∃ i : Nat, i ≤ 2 ∧ iv = .int .i64 i ∧ Hid (Below W2.heap.size W2 wr)) (fun iv _ => 2 - (intOf iv).toNat)
      case atStart => exact ⟨0, by omega, rfl, Lib.hid (Below.refl _ _)⟩
      case round =>
        obtain ⟨i, hi, rfl, HW⟩ := hrel
        by_cases hlt : i < 2
        · have hz : (i : Int) < 2 := by omega
          obtain ⟨V, hV, hok, hck⟩ : ∃ V, [X, Y][i]? = some V ∧ WdOk w B V ∧ V.p.ks = O.p.ks := by
            rcases (show i = 0 ∨ i = 1 by omega) with rfl | rfl
            · exact ⟨X, rfl, HX.out, HCC.out.2.2.2.1⟩
            · exact ⟨Y, rfl, HY.out, HCC.out.2.2.2.2⟩
          obtain ⟨c0, c1, c2⟩ := bk_wd2 (H5.out.below HW.out H5.out.lt) hV
          have c3 : wr.cell? ⟨w.heap.size, 0, none⟩ = some (.slice O.kA O.kn O.kc) := (HBX3.out.1.below HW.out HBX3.out.1.lt).cell 0
          have c4 : (wr.alloc (.cells #[.slice V.kA V.kn V.kc, .slice V.gA V.gn V.gc, .slice V.iA V.im V.ic] 52)).cell? ⟨w.heap.size, 0, none⟩ = some (.slice O.kA O.kn O.kc) := ((HBX3.out.1.below HW.out HBX3.out.1.lt).alloc _).cell 0
          have hb2 : Below w.heap.size w (wr.alloc (.cells #[.slice V.kA V.kn V.kc, .slice V.gA V.gn V.gc, .slice V.iA V.im V.ic] 52)) := Below.al (HB3.out.trans (HW.out.mono HB3.out.size)) _
          have HCK : Hid (Calls Try.prog 33 #[.slice O.kA O.kn O.kc, .slice V.kA V.kn V.kc, .func (.func 104) #[] #[]] (wr.alloc (.cells #[.slice V.kA V.kn V.kc, .slice V.gA V.gn V.gc, .slice V.iA V.im V.ic] 52)) fun e w' => e = .returned (.bool true) ∧ Below (wr.alloc (.cells #[.slice V.kA V.kn V.kc, .slice V.gA V.gn V.gc, .slice V.iA V.im V.ic] 52)).heap.size (wr.alloc (.cells #[.slice V.kA V.kn V.kc, .slice V.gA V.gn V.gc, .slice V.iA V.im V.ic] 52)) w') := Lib.hid (by
            have h := eqKinds_any (HO.out.ks.below (hb2.mono hBw)) (hok.ks.below (hb2.mono hBw))
            rw [decide_eq_true (show O.ks.map Kd.p = V.ks.map Kd.p from hck.symm)] at h; exact h)
          have HW2 : Hid (Below W2.heap.size W2 (wr.alloc (.cells #[.slice V.kA V.kn V.kc, .slice V.gA V.gn V.gc, .slice V.iA V.im V.ic] 52))) := Lib.hid (Below.al HW.out _)
          clear hok hck hV hb2
          go_wp2_with fail
          (with_reducible refine HCK.out.mono ?_)
          rintro e w3 ⟨rfl, hb3⟩
          have HW3 : Hid (Below W2.heap.size W2 w3) := Lib.hid (Below.tr HW2.out hb3)
          clear hb3 HCK HW2 c0 c1 c2 c3 c4
          go_wp2_with fail
          go_roundw
          case rel => first | exact ⟨i + 1, by omega, by go_num, HW3⟩ | ((repeat apply Exists.intro); exact ⟨⟨i + 1, by omega, by go_num, HW3⟩, rfl⟩)
          case measure => simp [intOf]; omega
        · obtain rfl : i = 2 := by omega
          have HBX4 : Hid (Bk wr w.heap.size 52 #[.slice O.kA O.kn O.kc, .slice O.gA O.gn O.gc, .slice O.iA O.im O.ic] ∧ Bk wr (w.heap.size + 1) 52 #[.slice X.kA X.kn X.kc, .slice X.gA X.gn X.gc, .slice X.iA X.im X.ic] ∧ Bk wr (w.heap.size + 2) 52 #[.slice Y.kA Y.kn Y.kc, .slice Y.gA Y.gn Y.gc, .slice Y.iA Y.im Y.ic] ∧ Bk wr (w.heap.size + 3) 52 #[.slice none 0 0, .slice none 0 0, .slice none 0 0]) := Lib.hid ⟨HBX3.out.1.below HW.out HBX3.out.1.lt, HBX3.out.2.1.below HW.out HBX3.out.2.1.lt, HBX3.out.2.2.1.below HW.out HBX3.out.2.2.1.lt, HBX3.out.2.2.2.below HW.out HBX3.out.2.2.2.lt⟩
          have HB4 : Hid (Below w.heap.size w wr) := Lib.hid (HB3.out.trans (HW.out.mono HB3.out.size))
          clear HBX3 HB3 HW H5
          have o0 : (wr.alloc (.cells #[.slice none 0 0] 198)).cell? ⟨w.heap.size, 0, none⟩ = some (.slice O.kA O.kn O.kc) := (HBX4.out.1.alloc _).cell 0
          have o1 : (wr.alloc (.cells #[.slice none 0 0] 198)).cell? ⟨w.heap.size, 1, none⟩ = some (.slice O.gA O.gn O.gc) := (HBX4.out.1.alloc _).cell 1
          have o2 : (wr.alloc (.cells #[.slice none 0 0] 198)).cell? ⟨w.heap.size, 2, none⟩ = some (.slice O.iA O.im O.ic) := (HBX4.out.1.alloc _).cell 2
          have hbm : Below w.heap.size w (wr.alloc (.cells #[.slice none 0 0] 198)) := Below.al HB4.out _
          have HCP : Hid (Calls Try.prog 105 #[.agg #[.slice O.kA O.kn O.kc, .slice O.gA O.gn O.gc, .slice O.iA O.im O.ic]] (wr.alloc (.cells #[.slice none 0 0] 198)) fun e w' => ∃ y : Wd, e = .returned y.v ∧ WdY w' 0 y ∧ y.p = O.p ∧ Below (wr.alloc (.cells #[.slice none 0 0] 198)).heap.size (wr.alloc (.cells #[.slice none 0 0] 198)) w') := Lib.hid (wcopy_any (HO.out.below (hbm.mono hBw)) (small_of (vw_of HCC.out.1).1 (vw_of HCC.out.1).2))
          have HMG : Hid (MgSt (wr.alloc (.cells #[.slice none 0 0] 198)) wr.heap.size wr.heap.size []) := Lib.hid ⟨none, 0, Bk.new _ _ _, World.ownsRow_nil _ _ _ _⟩
          have HB5 := Lib.hid hbm
          clear hbm
          go_wp2_with fail
          (with_reducible refine HCP.out.mono ?_)
          rintro e w5 ⟨⟨ykA, ykn, ykc, yks, ygA, ygn, ygc, ygens, yiA, yim, yic, yits⟩, rfl, hy, hyp, hb5⟩
          dsimp only [Wd.v] at hy hyp ⊢
          have hfld : ∀ wx, (Instr.field 52 (.agg #[.slice ykA ykn ykc, .slice ygA ygn ygc, .slice yiA yim yic]) 0).run Try.prog wx = .ok (.slice ykA ykn ykc) wx := fun _ => by kernel_rfl
          have HKY : Hid (KsY w5 0 ykA ykn ykc yks ∧ yks.map Kd.p = O.ks.map Kd.p) := Lib.hid ⟨hy.ks, congrArg Wv.ks hyp⟩
          have HBX5 : Hid (Bk w5 w.heap.size 52 #[.slice O.kA O.kn O.kc, .slice O.gA O.gn O.gc, .slice O.iA O.im O.ic] ∧ Bk w5 (w.heap.size + 1) 52 #[.slice X.kA X.kn X.kc, .slice X.gA X.gn X.gc, .slice X.iA X.im X.ic] ∧ Bk w5 (w.heap.size + 2) 52 #[.slice Y.kA Y.kn Y.kc, .slice Y.gA Y.gn Y.gc, .slice Y.iA Y.im Y.ic] ∧ Bk w5 (w.heap.size + 3) 52 #[.slice none 0 0, .slice none 0 0, .slice none 0 0]) := Lib.hid ⟨(HBX4.out.1.alloc _).below2 hb5, (HBX4.out.2.1.alloc _).below2 hb5, (HBX4.out.2.2.1.alloc _).below2 hb5, (HBX4.out.2.2.2.alloc _).below2 hb5⟩
          have HMG5 := Lib.hid (HMG.out.below hb5)
          have HB6 : Hid (Below w.heap.size w w5) := Lib.hid (HB5.out.trans (hb5.mono HB5.out.size))
          have hmw : w.heap.size ≤ wr.heap.size := HB4.out.size
          clear hy hyp hb5 HCP HMG HBX4 HB4 HB5 o0 o1 o2
          obtain ⟨m, hm⟩ : ∃ m, m = wr.heap.size := ⟨_, rfl⟩
          rw [← hm] at HMG5 hmw ⊢
          have HM := Lib.hid hm
          clear hm
          have o1 : (w5.alloc (.cells #[.slice ykA ykn ykc, .slice none 0 0, .slice none 0 0] 52)).cell? ⟨w.heap.size, 1, none⟩ = some (.slice O.gA O.gn O.gc) := (HBX5.out.1.alloc _).cell 1
          have x1 : (w5.alloc (.cells #[.slice ykA ykn ykc, .slice none 0 0, .slice none 0 0] 52)).cell? ⟨w.heap.size + 1, 1, none⟩ = some (.slice X.gA X.gn X.gc) := (HBX5.out.2.1.alloc _).cell 1
          have y1 : (w5.alloc (.cells #[.slice ykA ykn ykc, .slice none 0 0, .slice none 0 0] 52)).cell? ⟨w.heap.size + 2, 1, none⟩ = some (.slice Y.gA Y.gn Y.gc) := (HBX5.out.2.2.1.alloc _).cell 1
          obtain ⟨N, hN⟩ : ∃ N, N = slotsN O.p X.p Y.p := ⟨_, rfl⟩
          have hN2 : N = max X.gn (max Y.gn O.gn) := by rw [hN, HO.out.gs.len, HX.out.gs.len, HY.out.gs.len]; rfl
          obtain ⟨W6, hW6⟩ : ∃ W6, W6 = w5.alloc (.cells #[.slice ykA ykn ykc, .slice none 0 0, .slice none 0 0] 52) := ⟨_, rfl⟩
          have HW6 := Lib.hid hW6
          have HN := Lib.hid hN
          clear hN
          go_upto_region 16 with fail
          go_cut [69, 70] from 60 to 68 (fun v v2 wx => v = .int .i64 N ∧ v2 = .int .i64 0 ∧ wx = W6)
          case first =>
            go_wp2_with fail
            all_goals
              go_meet
              case rel => exact ⟨congrArg (Value.int .i64) (by omega), rfl, hW6.symm⟩
          case rest =>
            obtain ⟨rfl, rfl, rfl⟩ := hcut
            have HT0 : Hid (TI w.heap.size m w5.heap.size wc B O X Y ykA ykn ykc yks none 0 0 [] none 0 0 []) := Lib.hid (by
              rw [HW6.out]
              exact ⟨HBX5.out.1.alloc _, HBX5.out.2.1.alloc _, HBX5.out.2.2.1.alloc _, HBX5.out.2.2.2.alloc _, Bk.new _ _ _, HKY.out.1.keep (F := []) (Kx.refl.alloc _) (by simp) (by simp), World.ownsRow_nil _ _ _ _, World.ownsRow_nil _ _ _ _, rfl, (fun x hx => by cases hx), (fun x hx => by cases hx), HBX5.out.2.2.2.lt⟩)
            have HM0 : Hid (MgSt wc m m (clsF O.kn O.p.its X.p.its Y.p.its 0)) := Lib.hid (by rw [HW6.out]; exact HMG5.out.kx (F := []) (Kx.refl (B := 0) |>.alloc _) (by simp) (by simp))
            have HB7 : Hid (Below w.heap.size w wc) := Lib.hid (by rw [HW6.out]; exact Below.al HB6.out _)
            have HKP := Lib.hid HKY.out.2
            have hmh : m < w5.heap.size := HMG5.out.lt
            obtain ⟨ho, hho⟩ : ∃ ho, ho = w5.heap.size := ⟨_, rfl⟩
            rw [← hho] at HT0 hmh ⊢
            have hBm : B ≤ m := Nat.le_trans hBw hmw
            obtain ⟨h16, _⟩ := check_len (vw_of HCC.out.1).1
            have hkn16 : O.kn ≤ 16 := by rw [HO.out.ks.len]; simpa [Wd.p] using h16
            have HVO := Lib.hid (vw_of HCC.out.1).2
            have HVX := Lib.hid (vw_of HCC.out.2.1).2
            have HVY := Lib.hid (vw_of HCC.out.2.2.1).2
            have HKS := Lib.hid (And.intro HCC.out.2.2.2.1 HCC.out.2.2.2.2)
            have hN256 : N ≤ 256 := by
              have := HVO.out.many
              have := HVX.out.many
              have := HVY.out.many
              have := HN.out
              unfold slotsN at this
              omega
            have HC0 := Lib.hid (vw_of HCC.out.1).1
            obtain ⟨i3, hi3, hz30, hz31, hz32⟩ := info_parts T.info3
            obtain ⟨iI, hiI, hzI0, hzI1, hzI2⟩ := info_parts T.infoIt
            clear HBX5 HMG5 HB6 HKY HM HW6 hho HCC h16 hfld hN2
            go_wp2_with fail
            go_loopw [70] (fun nv wr => L3 m ho N w B O X Y ykA ykn ykc yks nv wr) (fun nv _ => N - (intOf nv).toNat)
            case atStart => exact ⟨0, 0, 0, 0, none, none, [], Nat.zero_le _, Nat.le_refl _, rfl, HT0, Lib.hid rfl, HM0, HB7⟩
            case round =>
              clear HT0 HM0 HB7
              obtain ⟨n, q, gc, ic, GA, IA, its, hn, hqn, rfl, HT, HI, HMG, HB⟩ := hrel
              by_cases hlt : n < N
              · have hnz : (n : Int) < N := by omega
                have o0 : wr.cell? ⟨w.heap.size, 0, none⟩ = some (.slice O.kA O.kn O.kc) := HT.out.bO.cell 0
                have o1 : wr.cell? ⟨w.heap.size, 1, none⟩ = some (.slice O.gA O.gn O.gc) := HT.out.bO.cell 1
                have o2 : wr.cell? ⟨w.heap.size, 2, none⟩ = some (.slice O.iA O.im O.ic) := HT.out.bO.cell 2
                have x0 : wr.cell? ⟨w.heap.size + 1, 0, none⟩ = some (.slice X.kA X.kn X.kc) := HT.out.bX.cell 0
                have x1 : wr.cell? ⟨w.heap.size + 1, 1, none⟩ = some (.slice X.gA X.gn X.gc) := HT.out.bX.cell 1
                have x2 : wr.cell? ⟨w.heap.size + 1, 2, none⟩ = some (.slice X.iA X.im X.ic) := HT.out.bX.cell 2
                have y0 : wr.cell? ⟨w.heap.size + 2, 0, none⟩ = some (.slice Y.kA Y.kn Y.kc) := HT.out.bY.cell 0
                have y1 : wr.cell? ⟨w.heap.size + 2, 1, none⟩ = some (.slice Y.gA Y.gn Y.gc) := HT.out.bY.cell 1
                have y2 : wr.cell? ⟨w.heap.size + 2, 2, none⟩ = some (.slice Y.iA Y.im Y.ic) := HT.out.bY.cell 2
                have hbB : Below B w wr := HB.out.mono hBw
                have hmwr : m ≤ wr.heap.size := by have := HT.out.bo.lt; omega
                have hcl := clsF_len (ks := X.p.ks) O.kn O.p.its X.p.its Y.p.its n (fun j it hf => HVX.out.fv j it hf) hkn16
                have HSL : Hid (Calls Try.prog 106 #[.pointer (some ⟨m, 0, none⟩), .int .i64 (n : Int), .int .i64 (O.kn : Int), .agg #[.slice O.kA O.kn O.kc, .slice O.gA O.gn O.gc, .slice O.iA O.im O.ic], .agg #[.slice X.kA X.kn X.kc, .slice X.gA X.gn X.gc, .slice X.iA X.im X.ic], .agg #[.slice Y.kA Y.kn Y.kc, .slice Y.gA Y.gn Y.gc, .slice Y.iA Y.im Y.ic]] wr (SlotP wr m m B O.kn n (clsF O.kn O.p.its X.p.its Y.p.its n) (findI O.p.its n) (findI X.p.its n) (findI Y.p.its n))) := Lib.hid (slot_any m m B O.kn n O X Y _ wr HMG.out hBm (Nat.le_refl _) hmwr (HO.out.below hbB) (HX.out.below hbB) (HY.out.below hbB) hkn16 (by omega)
                  (fun o ho x hx y hy k u v z h1 h2 h3 => by
                    have v1 := (HVO.out.ok o.p (List.mem_map_of_mem ho)).2.2
                    have v2 := (HVX.out.ok x.p (List.mem_map_of_mem hx)).2.2
                    have v3 := (HVY.out.ok y.p (List.mem_map_of_mem hy)).2.2
                    rw [HKS.out.1] at v2
                    rw [HKS.out.2] at v3
                    exact ⟨VCs.len (hl := holdK_len) v1 v2 h1 h2, VCs.len (hl := holdK_len) v3 v2 h3 h2⟩)
                  (fun z hz k v hv => by
                    rcases hz with hz | hz | hz
                    · exact find_small ((HVO.out.ok z.p (List.mem_map_of_mem hz)).2.2) hv
                    · exact find_small ((HVX.out.ok z.p (List.mem_map_of_mem hz)).2.2) hv
                    · exact find_small ((HVY.out.ok z.p (List.mem_map_of_mem hz)).2.2) hv))
                clear hcl hbB
                go_wp2_with fail
                (with_reducible refine HSL.out.mono ?_)
                rintro e v1 ⟨it, okb, rfl, hslF, hity, hfr, hmg, hkp⟩
                have hkx1 : Kx B [73, 198] wr v1 := Kx.of_kp hkp HMG.out hBm (Nat.le_refl _)
                have HT1 := Lib.hid (HT.out.kx hkx1 (by decide) (by decide) (by decide) (by decide) (by decide) (by decide))
                have HNO : Hid (NoB (Value.slice GA n gc).ownBlock it.cms) := Lib.hid (NoB.of_fr hfr (fun b hb => by have := HT.out.gown.lt b hb; omega))
                have HB1 : Hid (Below w.heap.size w v1) := Lib.hid (HB.out.trans ((hkp.below (Nat.le_refl _) hmwr).mono hmw))
                have HMG1 : Hid (MgSt v1 m m (clsF O.kn O.p.its X.p.its Y.p.its (n + 1))) := Lib.hid (by rw [clsF_step]; exact hmg)
                have HIT := Lib.hid hity
                have HSF := Lib.hid hslF
                clear hslF hity hfr hmg hkp hkx1 o0 o1 o2 x0 x1 x2 y0 y1 y2 HT HB HMG HSL
                obtain ⟨w3, hw3⟩ : ∃ w3, w3 = (v1.alloc (.cells #[.int .i64 it.e, .int .i64 it.g, .slice it.A it.n it.c] 147)).alloc (.cells #[.slice X.kA X.kn X.kc, .slice X.gA X.gn X.gc, .slice X.iA X.im X.ic, .slice Y.kA Y.kn Y.kc, .slice Y.gA Y.gn Y.gc, .slice Y.iA Y.im Y.ic, .slice O.kA O.kn O.kc, .slice O.gA O.gn O.gc, .slice O.iA O.im O.ic] 52) := ⟨_, rfl⟩
                have HK2 : Hid (Kx B [] v1 w3) := Lib.hid (by rw [hw3]; exact (Kx.refl.alloc _).alloc _)
                have HT2 := Lib.hid (HT1.out.kx HK2.out (by simp) (by simp) (by simp) (by simp) (by simp) (by simp))
                have HIT2 := Lib.hid (HIT.out.keep HK2.out (by simp) (by simp))
                have HMG2 := Lib.hid (HMG1.out.kx HK2.out (by simp) (by simp))
                have HBX2 : Hid (Bk w3 v1.heap.size 147 #[.int .i64 it.e, .int .i64 it.g, .slice it.A it.n it.c]) := Lib.hid (by rw [hw3]; exact (Bk.new _ _ _).alloc _)
                have H92 : Hid (Bk w3 (v1.heap.size + 1) 52 #[.slice X.kA X.kn X.kc, .slice X.gA X.gn X.gc, .slice X.iA X.im X.ic, .slice Y.kA Y.kn Y.kc, .slice Y.gA Y.gn Y.gc, .slice Y.iA Y.im Y.ic, .slice O.kA O.kn O.kc, .slice O.gA O.gn O.gc, .slice O.iA O.im O.ic]) := Lib.hid (by rw [hw3]; exact Bk.two _ _ _ _)
                have HB2 : Hid (Below w.heap.size w w3) := Lib.hid (by rw [hw3]; exact Below.al (Below.al HB1.out _) _)
                have o0 : (v1.alloc (.cells #[.int .i64 it.e, .int .i64 it.g, .slice it.A it.n it.c] 147)).cell? ⟨w.heap.size, 0, none⟩ = some (.slice O.kA O.kn O.kc) := (HT1.out.bO.alloc _).cell 0
                have o1 : (v1.alloc (.cells #[.int .i64 it.e, .int .i64 it.g, .slice it.A it.n it.c] 147)).cell? ⟨w.heap.size, 1, none⟩ = some (.slice O.gA O.gn O.gc) := (HT1.out.bO.alloc _).cell 1
                have o2 : (v1.alloc (.cells #[.int .i64 it.e, .int .i64 it.g, .slice it.A it.n it.c] 147)).cell? ⟨w.heap.size, 2, none⟩ = some (.slice O.iA O.im O.ic) := (HT1.out.bO.alloc _).cell 2
                have x0 : (v1.alloc (.cells #[.int .i64 it.e, .int .i64 it.g, .slice it.A it.n it.c] 147)).cell? ⟨w.heap.size + 1, 0, none⟩ = some (.slice X.kA X.kn X.kc) := (HT1.out.bX.alloc _).cell 0
                have x1 : (v1.alloc (.cells #[.int .i64 it.e, .int .i64 it.g, .slice it.A it.n it.c] 147)).cell? ⟨w.heap.size + 1, 1, none⟩ = some (.slice X.gA X.gn X.gc) := (HT1.out.bX.alloc _).cell 1
                have x2 : (v1.alloc (.cells #[.int .i64 it.e, .int .i64 it.g, .slice it.A it.n it.c] 147)).cell? ⟨w.heap.size + 1, 2, none⟩ = some (.slice X.iA X.im X.ic) := (HT1.out.bX.alloc _).cell 2
                have y0 : (v1.alloc (.cells #[.int .i64 it.e, .int .i64 it.g, .slice it.A it.n it.c] 147)).cell? ⟨w.heap.size + 2, 0, none⟩ = some (.slice Y.kA Y.kn Y.kc) := (HT1.out.bY.alloc _).cell 0
                have y1 : (v1.alloc (.cells #[.int .i64 it.e, .int .i64 it.g, .slice it.A it.n it.c] 147)).cell? ⟨w.heap.size + 2, 1, none⟩ = some (.slice Y.gA Y.gn Y.gc) := (HT1.out.bY.alloc _).cell 1
                have y2 : (v1.alloc (.cells #[.int .i64 it.e, .int .i64 it.g, .slice it.A it.n it.c] 147)).cell? ⟨w.heap.size + 2, 2, none⟩ = some (.slice Y.iA Y.im Y.ic) := (HT1.out.bY.alloc _).cell 2
                go_wp2_with fail
                rw [← hw3]
                clear hw3 o0 o1 o2 x0 x1 x2 y0 y1 y2 HT1 HIT HMG1 HB1 HK2
                generalize v1.heap.size = hb at *
                obtain ⟨ga, hga⟩ : ∃ ga, ga = X.gens.getD n 0 := ⟨_, rfl⟩
                obtain ⟨gb, hgb⟩ : ∃ gb, gb = Y.gens.getD n 0 := ⟨_, rfl⟩
                obtain ⟨gc2, hgc2⟩ : ∃ gc2, gc2 = O.gens.getD n 0 := ⟨_, rfl⟩
                have HGG := Lib.hid (And.intro hga (And.intro hgb hgc2))
                clear hga hgb hgc2
                go_loopw [19, 90] (fun gv iv wx => ∃ (i : Nat) (g : Int), i ≤ 3 ∧ iv = .int .i64 i ∧ gv = .int .i64 g ∧ Hid (g = gAcc ga gb gc2 i) ∧ Hid (Below w3.heap.size w3 wx)) (fun _ iv _ => 3 - (intOf iv).toNat)
                case atStart => exact ⟨0, 0, by omega, rfl, rfl, Lib.hid rfl, Lib.hid (Below.refl _ _)⟩
                case round =>
                  obtain ⟨i, g, hi, rfl, rfl, HG, HW⟩ := hrel
                  by_cases hil : i < 3
                  · have hz : (i : Int) < 3 := by omega
                    obtain ⟨V, hV, hok, gv, hgv, hacc, hv0⟩ : ∃ V, [X, Y, O][i]? = some V ∧ WdOk w B V ∧ ∃ gv : Int, gv = V.gens.getD n 0 ∧ [ga, gb, gc2][i]? = some gv ∧ 0 ≤ gv := by
                      rcases (show i = 0 ∨ i = 1 ∨ i = 2 by omega) with rfl | rfl | rfl
                      · exact ⟨X, rfl, HX.out, ga, HGG.out.1, rfl, by rw [HGG.out.1]; exact getD_pos (fun g hg => (HVX.out.gens g hg).1) n⟩
                      · exact ⟨Y, rfl, HY.out, gb, HGG.out.2.1, rfl, by rw [HGG.out.2.1]; exact getD_pos (fun g hg => (HVY.out.gens g hg).1) n⟩
                      · exact ⟨O, rfl, HO.out, gc2, HGG.out.2.2, rfl, by rw [HGG.out.2.2]; exact getD_pos (fun g hg => (HVO.out.gens g hg).1) n⟩
                    obtain ⟨c0, c1, c2⟩ := bk_wd3 (H92.out.below HW.out H92.out.lt) hV
                    have hst := gAcc_step hacc
                    have hps := gAcc_pos (a := ga) (b := gb) (c := gc2) i
                    rw [← HG.out] at hst hps
                    have hgs := (hok.gs.below ((HB2.out.trans (HW.out.mono HB2.out.size)).mono hBw))
                    have HW2 : Hid (Below w3.heap.size w3 (wr.alloc (.cells #[.slice V.kA V.kn V.kc, .slice V.gA V.gn V.gc, .slice V.iA V.im V.ic] 52))) := Lib.hid (Below.al HW.out _)
                    have hVl := hgs.len
                    by_cases hnl : n < V.gn
                    · have hnlz : (n : Int) < V.gn := by omega
                      obtain ⟨b, o, hgA, hbb, d0⟩ := hgs.rd.at1 hnl (u := .int .i64 gv) (by rw [hgv]; exact intsV_get _ _ (by omega))
                      rw [hgA] at c1
                      have hbw2 : b < wr.heap.size := Nat.lt_of_lt_of_le hbb hgs.lo
                      have d1 : (wr.alloc (.cells #[.slice V.kA V.kn V.kc, .slice (some ⟨b, o, none⟩) V.gn V.gc, .slice V.iA V.im V.ic] 52)).cell? ⟨b, o + n, none⟩ = some (.int .i64 gv) := (((Below.refl wr.heap.size wr).alloc (Nat.le_refl _) _).cell (p := ⟨b, o + n, none⟩) hbw2).trans d0
                      rw [hgA] at HW2
                      have HST := Lib.hid hst
                      have hn0 : (0 : Int) ≤ n := by omega
                      clear hok hV hgs hacc hgv hst hVl
                      go_wp2_with fail
                      all_goals
                        go_roundw
                        case rel => first | exact ⟨i + 1, _, by omega, by go_num, rfl, Lib.hid (by have h := HST.out; omega), HW2⟩ | ((repeat apply Exists.intro); exact ⟨⟨i + 1, _, by omega, by go_num, rfl, Lib.hid (by have h := HST.out; omega), HW2⟩, rfl⟩)
                        case measure => simp [intOf]; omega
                    · have hnlz : ¬ (n : Int) < V.gn := by omega
                      have hz0 : gv = 0 := by rw [hgv]; simp [List.getD, List.getElem?_eq_none (show V.gens.length ≤ n by omega)]
                      have HST : Hid (g = gAcc ga gb gc2 (i + 1)) := Lib.hid (by rw [hst]; omega)
                      clear hok hV hgs hacc hgv hst hVl
                      go_wp2_with fail
                      go_roundw
                      case rel => first | exact ⟨i + 1, g, by omega, by go_num, rfl, HST, HW2⟩ | ((repeat apply Exists.intro); exact ⟨⟨i + 1, g, by omega, by go_num, rfl, HST, HW2⟩, rfl⟩)
                      case measure => simp [intOf]; omega
                  · obtain rfl : i = 3 := by omega
                    have hkw := Kx.of_below (B := B) (F := []) HW.out
                    have HT3 := Lib.hid (HT2.out.kx hkw (by simp) (by simp) (by simp) (by simp) (by simp) (by simp))
                    have HIT3 := Lib.hid (HIT2.out.keep hkw (by simp) (by simp))
                    have HMG3 := Lib.hid (HMG2.out.kx hkw (by simp) (by simp))
                    have HBX3 := Lib.hid (HBX2.out.below HW.out HBX2.out.lt)
                    have HB3 : Hid (Below w.heap.size w wr) := Lib.hid (HB2.out.trans (HW.out.mono HB2.out.size))
                    have HSA : Hid (slotAt O.kn O.p.its X.p.its Y.p.its n = if okb = true then some it.p else none) := HSF
                    have HKN : Hid (O.kn = O.p.ks.length) := Lib.hid (by rw [HO.out.ks.len]; simp [Wd.p])
                    clear hkw HT2 HIT2 HMG2 HBX2 HB2 H92 HW HSF
                    cases okb
                    · have HIN : Hid (its.map It.p = itsF O.kn O.p.its X.p.its Y.p.its (n + 1)) := Lib.hid (by rw [itsF_step, HSA.out, HI.out]; simp)
                      have HGF : Hid (g = genF O.p.gens X.p.gens Y.p.gens n (slotAt O.p.ks.length O.p.its X.p.its Y.p.its n)) := Lib.hid (by
                        rw [← HKN.out, HSA.out]
                        show g = max (max (max 0 (X.gens.getD n 0)) (Y.gens.getD n 0)) (O.gens.getD n 0)
                        rw [HG.out, ← HGG.out.1, ← HGG.out.2.1, ← HGG.out.2.2]; rfl)
                      have g1 : wr.cell? ⟨ho, 1, none⟩ = some (.slice GA n gc) := HT3.out.bo.cell 1
                      have hwz : m ≤ wr.heap.size := by have := HT3.out.bo.lt; omega
                      go_wp2_with
                        (at_builtin
                         go_must (refine wpList_append_one _ rfl (.tmp 118) (.tmp 120) _ rfl m 3 i3 (.int .i64 0) 1 8 Try.underlying30 hi3 hz30 hz31 hz32 rfl (by decide) (.slice GA n gc) n ((gensF O.p X.p Y.p n).map (Value.int .i64)) rfl (HT3.out.gown.alloc _) wr.heap.size 1 3 #[.int .i64 g] rfl (Bk.new _ _ _) rfl ?c1 (n + 1) rfl ?c2 ?c3 ?c4 ?_)
                         case c1 => simp [Value.oneCell']
                         case c2 => unfold maxLen; omega
                         case c3 => omega
                         case c4 => (simp; omega)
                         intro g9 c9 w9 hown9 hg9 hat9
                         have hbo9 : Bk w9 ho 52 #[.slice ykA ykn ykc, .slice GA n gc, .slice IA q ic] := (HT3.out.bo.alloc _).grown hg9 (fun e => own_ne HT3.out.gown HT3.out.bo (by decide) e.symm)
                         have c91 : w9.cell? ⟨ho, 1, none⟩ = some (.slice GA n gc) := hbo9.cell 1
                         have f91 := hbo9.frozen 1)
                      have hTN := HT3.out.gen hBm hown9 hg9 (by rcases hat9 with h | h; exact .inl h; exact .inr h) (Nat.le_of_lt hmh)
                      have HTN : Hid (TI w.heap.size m ho (w9.setCell ⟨ho, 1, none⟩ (.slice (some ⟨g9, 0, none⟩) (n + 1) c9)) B O X Y ykA ykn ykc yks (some ⟨g9, 0, none⟩) (n + 1) c9 (gensF O.p X.p Y.p (n + 1)) IA q ic its) := Lib.hid (by rw [gensF_step, ← HGF.out]; exact hTN.1)
                      have HMN : Hid (MgSt (w9.setCell ⟨ho, 1, none⟩ (.slice (some ⟨g9, 0, none⟩) (n + 1) c9)) m m (clsF O.kn O.p.its X.p.its Y.p.its (n + 1))) := Lib.hid (HMG3.out.kx hTN.2 (by decide) (by decide))
                      have HBN : Hid (Below w.heap.size w (w9.setCell ⟨ho, 1, none⟩ (.slice (some ⟨g9, 0, none⟩) (n + 1) c9))) := Lib.hid (((Below.al HB3.out _).grown hg9 (Below.al HB3.out _).size (fun b hb => by have := (HT3.out.gown.lt b hb).1; omega)).setCell (p := ⟨ho, 1, none⟩) (by show w.heap.size ≤ ho; omega) _)
                      clear hTN hbo9 c91 f91 hown9 hg9 hat9 g1
                      go_wp2_with fail
                      go_roundw
                      case rel => first | exact ⟨n + 1, q, c9, ic, some ⟨g9, 0, none⟩, IA, its, by omega, by omega, by go_num, HTN, HIN, HMN, HBN⟩ | ((repeat apply Exists.intro); (refine And.intro ?_ ?_); rotate_left; (focus (repeat' first | exact rfl | apply And.intro)); exact ⟨n + 1, q, c9, ic, some ⟨g9, 0, none⟩, IA, its, by omega, by omega, by go_num, HTN, HIN, HMN, HBN⟩)
                      case measure => simp [intOf]; omega
                    · have b0 : wr.cell? ⟨hb, 0, none⟩ = some (.int .i64 it.e) := HBX3.out.cell 0
                      have b1 : wr.cell? ⟨hb, 1, none⟩ = some (.int .i64 it.g) := HBX3.out.cell 1
                      have b2 : wr.cell? ⟨hb, 2, none⟩ = some (.slice it.A it.n it.c) := HBX3.out.cell 2
                      have e2 : wr.cell? ⟨ho, 2, none⟩ = some (.slice IA q ic) := HT3.out.bo.cell 2
                      have hwz0 : m ≤ wr.heap.size := by have := HT3.out.bo.lt; omega
                      go_upto_region 30 with
                        (at_builtin
                         go_must (refine wpList_append_one _ rfl (.tmp 112) (.tmp 114) _ rfl m 147 iI (.agg #[.int .i64 0, .int .i64 0, .slice none 0 0]) 3 40 Try.underlying50 hiI hzI0 hzI1 hzI2 rfl (by decide) (.slice IA q ic) q (itCs its) rfl (HT3.out.iown.alloc _) wr.heap.size 1 147 #[.int .i64 it.e, .int .i64 it.g, .slice it.A it.n it.c] rfl (Bk.new _ _ _) rfl ?c1 (q + 1) rfl ?c2 ?c3 ?c4 ?_)
                         case c1 => simp [Value.oneCell']
                         case c2 => unfold maxLen; omega
                         case c3 => omega
                         case c4 => (simp; omega)
                         intro g8 c8 w8 hown8 hg8 hat8
                         have hbo8 : Bk w8 ho 52 #[.slice ykA ykn ykc, .slice GA n gc, .slice IA q ic] := (HT3.out.bo.alloc _).grown hg8 (fun e => own_ne HT3.out.iown HT3.out.bo (by decide) e.symm)
                         have c82 : w8.cell? ⟨ho, 2, none⟩ = some (.slice IA q ic) := hbo8.cell 2
                         have f82 := hbo8.frozen 2)
                      have hTI := HT3.out.item HIT3.out HNO.out hBm hown8 hg8 (Nat.le_of_lt hmh)
                      obtain ⟨w10, hw10⟩ : ∃ w10, w10 = w8.setCell ⟨ho, 2, none⟩ (.slice (some ⟨g8, 0, none⟩) (q + 1) c8) := ⟨_, rfl⟩
                      have HBI : Hid (Below w.heap.size w w10) := Lib.hid (by rw [hw10]; exact ((Below.al HB3.out _).grown hg8 (Below.al HB3.out _).size (fun b hb => by have := (HT3.out.iown.lt b hb).1; omega)).setCell (p := ⟨ho, 2, none⟩) (by show w.heap.size ≤ ho; omega) _)
                      rw [← hw10] at hTI ⊢
                      have HT4 := Lib.hid hTI.1
                      have HMG4 := Lib.hid (HMG3.out.kx hTI.2 (by decide) (by decide))
                      have HIN : Hid ((its ++ [it]).map It.p = itsF O.kn O.p.its X.p.its Y.p.its (n + 1)) := Lib.hid (by rw [itsF_step, HSA.out, List.map_append, HI.out]; rfl)
                      have HGF : Hid (it.g = genF O.p.gens X.p.gens Y.p.gens n (slotAt O.p.ks.length O.p.its X.p.its Y.p.its n)) := Lib.hid (by rw [← HKN.out, HSA.out]; rfl)
                      clear hTI hbo8 c82 f82 hown8 hg8 hat8 b0 b1 b2 e2 hw10 HT3 HMG3 HB3 HIT3 HBX3
                      have g1 : w10.cell? ⟨ho, 1, none⟩ = some (.slice GA n gc) := HT4.out.bo.cell 1
                      have hwz : m ≤ w10.heap.size := by have := HT4.out.bo.lt; omega
                      go_wp2_with
                        (at_builtin
                         go_must (refine wpList_append_one _ rfl (.tmp 118) (.tmp 120) _ rfl m 3 i3 (.int .i64 0) 1 8 Try.underlying30 hi3 hz30 hz31 hz32 rfl (by decide) (.slice GA n gc) n ((gensF O.p X.p Y.p n).map (Value.int .i64)) rfl (HT4.out.gown.alloc _) w10.heap.size 1 3 #[.int .i64 it.g] rfl (Bk.new _ _ _) rfl ?c1 (n + 1) rfl ?c2 ?c3 ?c4 ?_)
                         case c1 => simp [Value.oneCell']
                         case c2 => unfold maxLen; omega
                         case c3 => omega
                         case c4 => (simp; omega)
                         intro g9 c9 w9 hown9 hg9 hat9
                         have hbo9 : Bk w9 ho 52 #[.slice ykA ykn ykc, .slice GA n gc, .slice (some ⟨g8, 0, none⟩) (q + 1) c8] := (HT4.out.bo.alloc _).grown hg9 (fun e => own_ne HT4.out.gown HT4.out.bo (by decide) e.symm)
                         have c91 : w9.cell? ⟨ho, 1, none⟩ = some (.slice GA n gc) := hbo9.cell 1
                         have f91 := hbo9.frozen 1)
                      have hTN := HT4.out.gen hBm hown9 hg9 (by rcases hat9 with h | h; exact .inl h; exact .inr h) (Nat.le_of_lt hmh)
                      have HTN : Hid (TI w.heap.size m ho (w9.setCell ⟨ho, 1, none⟩ (.slice (some ⟨g9, 0, none⟩) (n + 1) c9)) B O X Y ykA ykn ykc yks (some ⟨g9, 0, none⟩) (n + 1) c9 (gensF O.p X.p Y.p (n + 1)) (some ⟨g8, 0, none⟩) (q + 1) c8 (its ++ [it])) := Lib.hid (by rw [gensF_step, ← HGF.out]; exact hTN.1)
                      have HMN : Hid (MgSt (w9.setCell ⟨ho, 1, none⟩ (.slice (some ⟨g9, 0, none⟩) (n + 1) c9)) m m (clsF O.kn O.p.its X.p.its Y.p.its (n + 1))) := Lib.hid (HMG4.out.kx hTN.2 (by decide) (by decide))
                      have HBN : Hid (Below w.heap.size w (w9.setCell ⟨ho, 1, none⟩ (.slice (some ⟨g9, 0, none⟩) (n + 1) c9))) := Lib.hid (((Below.al HBI.out _).grown hg9 (Below.al HBI.out _).size (fun b hb => by have := (HT4.out.gown.lt b hb).1; omega)).setCell (p := ⟨ho, 1, none⟩) (by show w.heap.size ≤ ho; omega) _)
                      clear hTN hbo9 c91 f91 hown9 hg9 hat9 g1
                      go_wp2_with fail
                      go_roundw
                      case rel => first | exact ⟨n + 1, (q + 1), c9, c8, some ⟨g9, 0, none⟩, (some ⟨g8, 0, none⟩), (its ++ [it]), by omega, by omega, by go_num, HTN, HIN, HMN, HBN⟩ | ((repeat apply Exists.intro); (refine And.intro ?_ ?_); rotate_left; (focus (repeat' first | exact rfl | apply And.intro)); exact ⟨n + 1, (q + 1), c9, c8, some ⟨g9, 0, none⟩, (some ⟨g8, 0, none⟩), (its ++ [it]), by omega, by omega, by go_num, HTN, HIN, HMN, HBN⟩)
                      case measure => simp [intOf]; omega
              · obtain rfl : N = n := by omega
                have hNN := HN.out
                have hks : O.kn = O.p.ks.length := by rw [HO.out.ks.len]; simp [Wd.p]
                have hmk := merge_ok holdK_mix HVO.out HVX.out HVY.out HKS.out.1 HKS.out.2
                have hgw : ∀ g ∈ gensF O.p X.p Y.p N, (Lit.int .i64 g).wf = true := fun g hg => by
                  rw [hNN] at hg
                  have := hmk.gens g hg
                  exact wf_i64 (by omega) (by omega)
                obtain ⟨Zo, hZo⟩ : ∃ Zo : Wd, Zo = ⟨ykA, ykn, ykc, yks, GA, N, gc, gensF O.p X.p Y.p N, IA, q, ic, its⟩ := ⟨_, rfl⟩
                have hZp : Zo.p = mergeF O.p X.p Y.p := by
                  rw [hZo]
                  show (⟨yks.map Kd.p, gensF O.p X.p Y.p N, its.map It.p⟩ : Wv Kp2) = ⟨O.p.ks, gensF O.p X.p Y.p (slotsN O.p X.p Y.p), itsF O.p.ks.length O.p.its X.p.its Y.p.its (slotsN O.p X.p Y.p)⟩
                  rw [HKP.out, HI.out, ← hNN, ← hks]; rfl
                have hZY : WdY wr B Zo := by rw [hZo]; exact ⟨HT.out.ks.more (Nat.zero_le _), GsY.own HT.out.gown hgw, IsY.of_own HT.out.iown HT.out.len HT.out.iok⟩
                have hsm : SmallV Zo.p := by rw [hZp]; exact small_of HC0.out hmk
                have hcp : ∀ wx, Below wr.heap.size wr wx → Calls Try.prog 105 #[.agg #[.slice ykA ykn ykc, .slice GA N gc, .slice IA q ic]] wx fun e w' => ∃ y : Wd, e = .returned y.v ∧ WdY w' 0 y ∧ y.p = mergeF O.p X.p Y.p ∧ Below wx.heap.size wx w' := fun wx hb => by
                  have h := wcopy_any (hZY.ok_.below hb) hsm
                  rw [hZp] at h
                  rw [hZo] at h
                  exact h
                obtain ⟨CA, cc, hbm, how⟩ := HMG.out.ex
                have hcls : clsF O.kn O.p.its X.p.its Y.p.its N = mergeC O.p X.p Y.p := by rw [hks, hNN]; rfl
                rw [hcls] at hbm how
                obtain ⟨ln, hln⟩ : ∃ ln, ln = (mergeC O.p X.p Y.p).length := ⟨_, rfl⟩
                rw [← hln] at hbm how
                have HCP := Lib.hid hcp
                have HHOW := Lib.hid how
                have HBM := Lib.hid hbm
                have HLN := Lib.hid hln
                clear hNN hks hmk hgw hZo hZp hZY hsm hcp hcls how hln
                have s1 : wr.drew.cell? ⟨ho, 0, none⟩ = some (.slice ykA ykn ykc) ∧ wr.drew.cell? ⟨ho, 1, none⟩ = some (.slice GA N gc) ∧ wr.drew.cell? ⟨ho, 2, none⟩ = some (.slice IA q ic) ∧ wr.drew.cell? ⟨m, 0, none⟩ = some (.slice CA ln cc) := ⟨HT.out.bo.cell 0, HT.out.bo.cell 1, HT.out.bo.cell 2, hbm.cell 0⟩
                have hhr : ho ≠ w.heap.size + 3 := by have := HT.out.hho; omega
                have hmr : m ≠ w.heap.size + 3 := Bk.ne_ hbm HT.out.bR (by decide)
                clear hbm
                go_wp2_with fail
                go_region_held3 (fun wx => wx.cell? ⟨ho, 0, none⟩ = some (.slice ykA ykn ykc) ∧ wx.cell? ⟨ho, 1, none⟩ = some (.slice GA N gc) ∧ wx.cell? ⟨ho, 2, none⟩ = some (.slice IA q ic) ∧ wx.cell? ⟨m, 0, none⟩ = some (.slice CA ln cc))
                  (first | (with_reducible exact s1) | (with_reducible exact s3) | (with_reducible exact s4) | go_keep)
                  (first
                    | (go_at_call 105
                       (with_reducible refine (HCP.out _ (Below.refl _ _).drew).mono ?_)
                       rintro e w3 ⟨⟨zkA, zkn, zkc, zks, zgA, zgn, zgc, zgens, ziA, zim, zic, zits⟩, rfl, hy, hyp, hb3⟩
                       dsimp only [Wd.v]
                       have hbo3 := HT.out.bo.drew.below hb3 HT.out.bo.lt
                       have hbm3 := HBM.out.drew.below hb3 HBM.out.lt
                       have hbr3 := HT.out.bR.drew.below hb3 HT.out.bR.lt
                       have s3 : w3.cell? ⟨ho, 0, none⟩ = some (.slice ykA ykn ykc) ∧ w3.cell? ⟨ho, 1, none⟩ = some (.slice GA N gc) ∧ w3.cell? ⟨ho, 2, none⟩ = some (.slice IA q ic) ∧ w3.cell? ⟨m, 0, none⟩ = some (.slice CA ln cc) := ⟨hbo3.cell 0, hbo3.cell 1, hbo3.cell 2, hbm3.cell 0⟩
                       have n0 : w3.cell? ⟨w.heap.size + 3, 0, none⟩ = some (.slice none 0 0) := hbr3.cell 0
                       have n1 : w3.cell? ⟨w.heap.size + 3, 1, none⟩ = some (.slice none 0 0) := hbr3.cell 1
                       have n2 : w3.cell? ⟨w.heap.size + 3, 2, none⟩ = some (.slice none 0 0) := hbr3.cell 2
                       have m0 := hbr3.frozen 0
                       have m1 := hbr3.frozen 1
                       have m2 := hbr3.frozen 2
                       have hbo4 := ((hbo3.far (p := ⟨w.heap.size + 3, 0, none⟩) hhr (.slice zkA zkn zkc)).far (p := ⟨w.heap.size + 3, 1, none⟩) hhr (.slice zgA zgn zgc)).far (p := ⟨w.heap.size + 3, 2, none⟩) hhr (.slice ziA zim zic)
                       have hbm4 := ((hbm3.far (p := ⟨w.heap.size + 3, 0, none⟩) hmr (.slice zkA zkn zkc)).far (p := ⟨w.heap.size + 3, 1, none⟩) hmr (.slice zgA zgn zgc)).far (p := ⟨w.heap.size + 3, 2, none⟩) hmr (.slice ziA zim zic)
                       have s4 := And.intro (hbo4.cell 0) (And.intro (hbo4.cell 1) (And.intro (hbo4.cell 2) (hbm4.cell 0)))
                       have HR3 := Lib.hid hbr3
                       have HY3 := Lib.hid (And.intro hy (And.intro hyp (show Below wr.heap.size wr w3 from ⟨hb3.os, hb3.tape, hb3.output, hb3.size, hb3.block⟩)))
                       clear hbo3 hbm3 hbr3 hbo4 hbm4 hy hyp hb3))
                have hkx := Kx.set3 (B := 0) (F := [52]) Kx.refl HR3.out (Nat.zero_le _) (by simp) 0 1 2 (.slice zkA zkn zkc) (.slice zgA zgn zgc) (.slice ziA zim zic)
                have how3 := hkx.own ((Kx.of_below (B := 0) (F := []) HY3.out.2.2).own HHOW.out (by simp)) (by decide)
                have hcp := own_cap2 how3
                have HDN := Lib.hid (And.intro (And.intro (HY3.out.1.keep hkx (by decide) (by decide) (by decide) (by decide) (by decide)) HY3.out.2.1) (And.intro HLN.out (And.intro hcp.1 (And.intro hcp.2 (RdY.of_own (B := 0) how3)))))
                have HBN : Hid (Below w.heap.size w (((w3.setCell ⟨w.heap.size + 3, 0, none⟩ (.slice zkA zkn zkc)).setCell ⟨w.heap.size + 3, 1, none⟩ (.slice zgA zgn zgc)).setCell ⟨w.heap.size + 3, 2, none⟩ (.slice ziA zim zic))) := Lib.hid ((((HB.out.trans (HY3.out.2.2.mono HB.out.size)).setCell (p := ⟨w.heap.size + 3, 0, none⟩) (by show w.heap.size ≤ w.heap.size + 3; omega) _).setCell (p := ⟨w.heap.size + 3, 1, none⟩) (by show w.heap.size ≤ w.heap.size + 3; omega) _).setCell (p := ⟨w.heap.size + 3, 2, none⟩) (by show w.heap.size ≤ w.heap.size + 3; omega) _)
                clear hkx how3 hcp s1 s3
                go_wp2_with fail
                (try simp only [Exit.inBlock, Exit.then])
                refine bodyPost_ret (v := .tuple #[.agg #[.slice zkA zkn zkc, .slice zgA zgn zgc, .slice ziA zim zic], .slice CA ln cc, .int .i64 0]) ?_ rfl ⟨⟨zkA, zkn, zkc, zks, zgA, zgn, zgc, zgens, ziA, zim, zic, zits⟩, CA, ln, cc, rfl, Lib.hid HDN.out.1, Lib.hid HDN.out.2, HBN.out⟩
                rw [results_c3 rfl]
                go_simp
end Go.Proofs.Ytnidcmhfbkdioaa
