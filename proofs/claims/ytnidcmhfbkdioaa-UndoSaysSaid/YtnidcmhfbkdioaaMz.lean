/-
  What the frames of a world that is changed keep. Conditions: none.
-/
import Derived.Test.YtnidcmhfbkdioaaMu
import Derived.Test.YtnidcmhfbkdioaaMx
namespace Go.Proofs.Ytnidcmhfbkdioaa
open Go.RowKit
set_option maxRecDepth 100000

section
variable {r ho base : Nat} {wr w' : World} {kA : Option Addr} {kn kc : Nat} {ks : List Kd} {GA : Option Addr} {n gc : Nat} {G : List Int} {IA : Option Addr} {q ic : Nat} {its : List It}
/-- One number of the row of generations is stored in place. -/
theorem WI.put {g : Nat} (H : WI r ho base wr kA kn kc ks (some ⟨g, 0, none⟩) n gc G IA q ic its) (N : Nat) (u : Int) :
    WI r ho base (wr.setCell ⟨g, N, none⟩ (.int .i64 u)) kA kn kc ks (some ⟨g, 0, none⟩) n gc (G.set N u) IA q ic its ∧ Kx base [3] wr (wr.setCell ⟨g, N, none⟩ (.int .i64 u)) := by
  obtain ⟨h1, h2⟩ := H.gown.stored N (.int .i64 u)
  have h2 : wr.grownBy (wr.setCell ⟨g, N, none⟩ (.int .i64 u)) (Value.slice (some ⟨g, 0, none⟩) n gc).ownBlock := h2
  have hq : Kx base [3] wr (wr.setCell ⟨g, N, none⟩ (.int .i64 u)) := (Kx.refl (B := base)).grown H.gown h2 (Nat.le_refl _) (by simp)
  have hq0 := hq.mono (Nat.zero_le base) (G := [3]) (fun _ h => h)
  refine ⟨⟨hq.bk H.bR (by decide), hq.bk H.bo (by decide), H.ks.keep hq0 (by decide) (by decide), ?_, hq.own H.iown (by decide), H.len, fun x hx => (H.iok x hx).grown3 H.gown h2 (Nat.zero_le _) (H.nob x hx), H.nob, H.hro⟩, hq⟩
  rw [List.map_set]; exact h1
end

/-- The components of an entity that are collected. -/
structure LI (H hx : Nat) (e g : Int) (ks : List Kp2) (cs : List Cv) (wr : World) (j q : Nat) (OA : Option Addr) (oc : Nat) (l : List Cm) : Prop where
  bx : Bk wr hx 147 #[.int .i64 e, .int .i64 g, .slice OA q oc]
  own : wr.ownsRow H 166 2 (.slice OA q oc) q (cmCs l)
  len : q = l.length
  ok : ∀ z ∈ l, CmY wr 0 z
  cc : CcI holdK ks cs j (l.map Cm.p)
  fr : Fr H 0 l
  lo : H ≤ hx
section
variable {H hx : Nat} {e g : Int} {ks : List Kp2} {cs : List Cv} {wr w' : World} {j q : Nat} {OA : Option Addr} {oc : Nat} {l : List Cm}
theorem LI.kx {B : Nat} {F : List TypeId} (h : LI H hx e g ks cs wr j q OA oc l) (hq : Kx B F wr w') (h3 : (3 : TypeId) ∉ F) (h147 : (147 : TypeId) ∉ F) (h166 : (166 : TypeId) ∉ F) : LI H hx e g ks cs w' j q OA oc l :=
  ⟨hq.bk h.bx h147, hq.own h.own h166, h.len, fun z hz => (h.ok z hz).keep (hq.mono (Nat.zero_le _) (fun _ h => h)) h3, h.cc, h.fr, h.lo⟩
theorem LI.skip (h : LI H hx e g ks cs wr j q OA oc l) : LI H hx e g ks cs wr (j + 1) q OA oc l :=
  ⟨h.bx, h.own, h.len, h.ok, h.cc.skip, h.fr, h.lo⟩
theorem LI.snoc (h : LI H hx e g ks cs wr j q OA oc l) {w8 : World} {g8 c8 : Nat} {z : Cm} {o : Obj} {M : List Cv} (hz : CmY wr 0 z) (hfr : ∀ b o, z.A = some ⟨b, o, none⟩ → H ≤ b) (hM : M = l.map Cm.p ++ [z.p]) (hcc : CcI holdK ks cs (j + 1) M)
    (hown8 : w8.ownsRow H 166 2 (.slice (some ⟨g8, 0, none⟩) (q + 1) c8) (q + 1) (cmCs l ++ [.int .i64 z.k, .slice z.A z.n z.c])) (hg8 : (wr.alloc o).grownBy w8 (Value.slice OA q oc).ownBlock) :
    LI H hx e g ks cs (w8.setCell ⟨hx, 2, none⟩ (.slice (some ⟨g8, 0, none⟩) (q + 1) c8)) (j + 1) (q + 1) (some ⟨g8, 0, none⟩) c8 (l ++ [z]) ∧ Kx H [166, 147] wr (w8.setCell ⟨hx, 2, none⟩ (.slice (some ⟨g8, 0, none⟩) (q + 1) c8)) := by
  have hq7 : Kx H [166] wr w8 := ((Kx.refl (B := H)).alloc _).grown (h.own.alloc _) hg8 (Nat.le_refl _) (by simp)
  have bo := hq7.bk h.bx (by decide)
  have hset : Kx H [147] w8 (w8.setCell ⟨hx, 2, none⟩ (.slice (some ⟨g8, 0, none⟩) (q + 1) c8)) := Kx.set Kx.refl bo h.lo (by simp) 2 _
  refine ⟨⟨by simpa using bo.set_ 2 (.slice (some ⟨g8, 0, none⟩) (q + 1) c8), ?_, by simp [h.len], fun x hx' => ?_, ?_, fun x hx' hn b o hA => ?_, h.lo⟩, (hq7.mono (Nat.le_refl _) (by simp)).trans (hset.mono (Nat.le_refl _) (by simp))⟩
  · rw [show cmCs (l ++ [z]) = cmCs l ++ [.int .i64 z.k, .slice z.A z.n z.c] by simp [cmCs, Cm.cs]]
    exact hset.own hown8 (by decide)
  · rcases List.mem_append.1 hx' with hx' | hx'
    · exact ((h.ok x hx').keep (hq7.mono (Nat.zero_le _) (fun _ h => h)) (by decide)).keep (hset.mono (Nat.zero_le _) (fun _ h => h)) (by decide)
    · rw [show x = z by simpa using hx']; exact (hz.keep (hq7.mono (Nat.zero_le _) (fun _ h => h)) (by decide)).keep (hset.mono (Nat.zero_le _) (fun _ h => h)) (by decide)
  · rw [List.map_append, ← show M = l.map Cm.p ++ [z].map Cm.p from hM]; exact hcc
  · rcases List.mem_append.1 hx' with hx' | hx'
    · exact h.fr x hx' hn b o hA
    · rw [show x = z by simpa using hx'] at hA; exact .inr (hfr b o hA)
end
/-- The values that are drawn anew, in a row of their own. -/
structure VI (H s B : Nat) (w0 : World) (d : Kp2) (wr : World) (n : Nat) (VA : Option Addr) (vc : Nat) (V : List Int) : Prop where
  own : wr.ownsRow H 3 1 (.slice VA n vc) n (V.map (Value.int .i64))
  hold : holdK d V = true
  len : V.length = n
  st : StrSt wr B s
  fq : Fq [s] w0 wr
section
variable {H s B : Nat} {w0 : World} {d : Kp2} {wr w' : World} {n : Nat} {VA : Option Addr} {vc : Nat} {V : List Int}
theorem VI.next (h : VI H s B w0 d wr n VA vc V) (hg : wr.grownBy w' (some s)) (hst : StrSt w' B s) (hH : s < H) : VI H s B w0 d w' n VA vc V :=
  ⟨own_keepB h.own fun g hg' => hg.block g (h.own.lt g hg').2 (fun e => by injection e with e; have := (h.own.lt g hg').1; omega), h.hold, h.len, hst, h.fq.grown hg fun g hg => .inl (by injection hg with hg; simp [hg])⟩
theorem VI.drew (h : VI H s B w0 d wr n VA vc V) : VI H s B w0 d wr.drew n VA vc V := by
  obtain ⟨A, m, c, zs, h1, h2, h3, h4, h5, h6⟩ := h.st
  exact ⟨h.own, h.hold, h.len, ⟨A, m, c, zs, h1, h2, h3, h4, h5, h6⟩, h.fq.drew⟩
theorem VI.below (h : VI H s B w0 d wr n VA vc V) (hb : Below wr.heap.size wr w') (hB : B ≤ s) : VI H s B w0 d w' n VA vc V :=
  ⟨own_keepB h.own fun g hg' => hb.block g (h.own.lt g hg').2, h.hold, h.len, h.st.below hb (h.st.lo hB), h.fq.trans (Fq.of_below hb) (SubF.refl _ _)⟩
theorem VI.put {g : Nat} (h : VI H s B w0 d wr n (some ⟨g, 0, none⟩) vc V) (hH : w0.heap.size ≤ H) (hs : s < H) (hB : B ≤ s) {k : Nat} {f : Fd} {u : Int} (hf : d.2[k]? = some f) (h1 : f.low ≤ u) (h2 : u < f.low + 2 ^ f.bits.toNat) :
    VI H s B w0 d (wr.setCell ⟨g, k, none⟩ (.int .i64 u)) n (some ⟨g, 0, none⟩) vc (V.set k u) := by
  obtain ⟨h3, h4⟩ := h.own.stored k (.int .i64 u)
  have hg := (h.own.lt g rfl).1
  obtain ⟨A, m, c, zs, e1, e2, e3, e4, e5, e6⟩ := h.st
  refine ⟨by rw [List.map_set]; exact h3, holdK_set h.hold hf h1 h2, by simp [h.len], ⟨A, m, c, zs, e1.far (p := ⟨g, k, none⟩) (by show s ≠ g; omega) _, e2, e3, e4, e5.keep fun b hb => Below.heap_setCell _ _ _ _ (by show b ≠ g; omega), e6⟩, h.fq.set (.inr (by omega)) k _⟩
/-- The row of values as a component's. -/
theorem VI.cm (h : VI H s B w0 d wr n VA vc V) {k : Int} (hk : (Lit.int .i64 k).wf = true) : CmY wr 0 (⟨k, VA, n, vc, V⟩ : Cm) := by
  have hc := own_cap2 h.own
  exact ⟨.of_own h.own, h.len.symm, hc.1, hc.2, hk⟩
end
section
variable {r ho base : Nat} {wr : World} {kA : Option Addr} {kn kc : Nat} {ks : List Kd} {GA : Option Addr} {n gc : Nat} {G : List Int} {IA : Option Addr} {q ic : Nat} {its : List It}
/-- The result of the frame, stored. -/
theorem WI.fin (H : WI r ho base wr kA kn kc ks GA n gc G IA q ic its) (hgw : ∀ g ∈ G, (Lit.int .i64 g).wf = true) :
    WdY (((wr.setCell ⟨r, 0, none⟩ (.slice kA kn kc)).setCell ⟨r, 1, none⟩ (.slice GA n gc)).setCell ⟨r, 2, none⟩ (.slice IA q ic)) 0 ⟨kA, kn, kc, ks, GA, n, gc, G, IA, q, ic, its⟩ := by
  have hkx := Kx.set3 (B := 0) (F := [52]) Kx.refl H.bR (Nat.zero_le _) (by simp) 0 1 2 (.slice kA kn kc) (.slice GA n gc) (.slice IA q ic)
  exact ⟨H.ks.keep hkx (by decide) (by decide), (GsY.own H.gown hgw).keep hkx (by decide), (IsY.of_own H.iown H.len H.iok).keep hkx (by decide) (by decide) (by decide)⟩
theorem WI.cell3 (H : WI r ho base wr kA kn kc ks GA n gc G IA q ic its) : (wr.cell? ⟨ho, 0, none⟩ = some (.slice kA kn kc) ∧ wr.cell? ⟨ho, 1, none⟩ = some (.slice GA n gc) ∧ wr.cell? ⟨ho, 2, none⟩ = some (.slice IA q ic)) ∧
    (wr.cell? ⟨r, 0, none⟩ = some (.slice none 0 0) ∧ wr.cell? ⟨r, 1, none⟩ = some (.slice none 0 0) ∧ wr.cell? ⟨r, 2, none⟩ = some (.slice none 0 0)) ∧ (wr.frozen? ⟨r, 0, none⟩ = false ∧ wr.frozen? ⟨r, 1, none⟩ = false ∧ wr.frozen? ⟨r, 2, none⟩ = false) :=
  ⟨⟨H.bo.cell 0, H.bo.cell 1, H.bo.cell 2⟩, ⟨H.bR.cell 0, H.bR.cell 1, H.bR.cell 2⟩, ⟨H.bR.frozen 0, H.bR.frozen 1, H.bR.frozen 2⟩⟩
end
theorem below3 {w w' : World} {r : Nat} (h : Below w.heap.size w w') (hr : w.heap.size ≤ r) (a b c : Value) : Below w.heap.size w (((w'.setCell ⟨r, 0, none⟩ a).setCell ⟨r, 1, none⟩ b).setCell ⟨r, 2, none⟩ c) :=
  ((h.setCell (p := ⟨r, 0, none⟩) hr _).setCell (p := ⟨r, 1, none⟩) hr _).setCell (p := ⟨r, 2, none⟩) hr _
end Go.Proofs.Ytnidcmhfbkdioaa
