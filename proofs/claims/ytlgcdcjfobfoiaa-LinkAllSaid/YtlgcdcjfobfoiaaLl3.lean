/-
  LinkAll: the network and both ends side by side in memory ('LaW'); what each call leaves of them. Conditions: none.
-/
import Derived.Test.YtlgcdcjfobfoiaaLl2
import Derived.Test.YtlgcdcjfobfoiaaNt9
namespace Go.Proofs.Ytlgcdcjfobfoiaa
open Go.RowKit
set_option maxRecDepth 100000

/-- All blocks of other types lie as they lay. -/
def KeepT (S : List TypeId) (w w' : World) : Prop := ∀ k t cs, Bk w k t cs → t ∉ S → Bk w' k t cs
theorem Kq.keepT {base : Nat} {w w' : World} (h : Kq base w w') : KeepT [110, 113] w w' := fun k t cs hk ht =>
  h.block k t cs hk (fun e => ht (by simp [e])) (fun e => ht (by simp [e]))
theorem Below.keepT {w w' : World} (h : Below w.heap.size w w') (S : List TypeId) : KeepT S w w' := fun _ _ _ hk _ => hk.below h hk.lt
theorem EndS.ty {w : World} {base : Nat} {F : List Nat} {g first next : Nat} {W G : List (List Nat)} (h : EndS w base F g first next W G) : ∀ k ∈ F, ∃ t cs, Bk w k t cs ∧ (t = 123 ∨ t = 30) := by
  obtain ⟨Ws, Gs, WA, GA, wc, gc, h, _, _⟩ := h
  intro k hk
  rw [h.fp] at hk
  simp only [List.mem_cons, List.mem_append, blkA_mem] at hk
  rcases hk with rfl | hk | hk
  · exact ⟨_, _, h.bk, .inl rfl⟩
  · obtain ⟨_, cs, hb⟩ := h.wait.block_lt k hk
    exact ⟨_, cs, hb, .inr rfl⟩
  · obtain ⟨_, cs, hb⟩ := own_blk h.got k hk
    exact ⟨_, cs, hb, .inr rfl⟩
theorem EndS.keepT {w w' : World} {base : Nat} {F : List Nat} {g first next : Nat} {W G : List (List Nat)} {S : List TypeId} (h : EndS w base F g first next W G) (hk : KeepT S w w') (hS : 123 ∉ S ∧ 30 ∉ S ∧ 5 ∉ S) (hs : w.heap.size ≤ w'.heap.size) : EndS w' base F g first next W G := by
  refine h.keep (fun k hkF => ?_) hs fun k cs hb => hk k 5 cs hb hS.2.2
  obtain ⟨t, cs, hb, ht⟩ := h.ty k hkF
  have hb' := hk k t cs hb (by rcases ht with rfl | rfl; exact hS.1; exact hS.2.1)
  exact hb'.trans hb.symm
/-- A call on an end leaves blocks of other types. -/
theorem EndS.fqT {w w' : World} {base : Nat} {F : List Nat} {g first next : Nat} {W G : List (List Nat)} (h : EndS w base F g first next W G) (hq : Fq F w w') : KeepT [123, 30] w w' := fun k t cs hk ht =>
  (hq.low k hk.lt (fun hF => by
    obtain ⟨t', cs', hb, ht'⟩ := h.ty k hF
    have := Bk.same hk hb
    subst this
    rcases ht' with rfl | rfl <;> simp at ht)).trans hk
theorem Tr.keepT {w w' : World} {S : List TypeId} {e : TypeId} {size n : Nat} {A : Option Addr} {xs : List Value} (h : Tr w e size A n xs) (hk : KeepT S w w') (he : e ∉ S) : Tr w' e size A n xs :=
  ⟨h.1, fun hn => by obtain ⟨b, o, cs, hA, hb, hc⟩ := h.2 hn; exact ⟨b, o, cs, hA, hk b e cs hb he, hc⟩⟩
theorem NetSt.keepT {w w' : World} {base g : Nat} {ends now sent : Int} {ds : List Dd} {fs : List Fl} {S : List TypeId} (h : NetSt w base g ends now sent ds fs) (hk : KeepT S w w') (hS : 110 ∉ S ∧ 47 ∉ S ∧ 113 ∉ S ∧ 5 ∉ S) : NetSt w' base g ends now sent ds fs := by
  obtain ⟨⟨DA, dc, AA, ac, hb, h1, h2, h3, h4⟩, hbase, hgood, hfew, hdat⟩ := h
  exact ⟨⟨DA, dc, AA, ac, hk _ _ _ hb hS.1, h1, h2, h3.keepT hk hS.2.1, h4.keep fun k cs _ hb => hk k 113 cs hb hS.2.2.1⟩, hbase, hgood, hfew, fun f hf => ⟨(hdat f hf).1.keepT hk hS.2.2.2, (hdat f hf).2⟩⟩

/-- The network, both ends, and the counters, side by side. -/
structure LaW (w0 wr : World) (g gE gC : Nat) (now sent : Int) (ds : List Dd) (fs : List Fl) (m f n c : Nat → Nat) (gs : Nat → Nat) (F : Nat → List Nat) (G : Nat → List (List Nat)) : Prop where
  net : NetSt wr w0.heap.size g 2 now sent ds fs
  ends : ∀ k, k < 2 → EndS wr w0.heap.size (F k) (gs k) (f k) (n k) ((msgs k (m k)).drop (f k)) (G k)
  dis : ∀ j k, j < 2 → k < 2 → j ≠ k → ∀ b ∈ F j, b ∉ F k
  be : Bk wr gE 70 #[.pointer (some ⟨gs 0, 0, none⟩), .pointer (some ⟨gs 1, 0, none⟩)]
  bc : Bk wr gC 83 #[.int .i64 (c 0), .int .i64 (c 1)]
  hC : w0.heap.size ≤ gC
  bl : Below w0.heap.size w0 wr

section
variable {w0 wr w' : World} {g gE gC : Nat} {now sent : Int} {ds : List Dd} {fs : List Fl} {m f n c gs : Nat → Nat} {F : Nat → List Nat} {G : Nat → List (List Nat)}
theorem LaW.below (h : LaW w0 wr g gE gC now sent ds fs m f n c gs F G) (hb : Below wr.heap.size wr w') : LaW w0 w' g gE gC now sent ds fs m f n c gs F G :=
  ⟨h.net.below hb, fun k hk => (h.ends k hk).below hb, h.dis, h.be.below hb h.be.lt, h.bc.below hb h.bc.lt, h.hC, h.bl.trans (hb.mono h.bl.size)⟩
/-- A call on the network. -/
theorem LaW.kq (h : LaW w0 wr g gE gC now sent ds fs m f n c gs F G) (hb : Kq w0.heap.size wr w') {now' sent' : Int} {fs' : List Fl} (hn : NetSt w' w0.heap.size g 2 now' sent' ds fs') : LaW w0 w' g gE gC now' sent' ds fs' m f n c gs F G :=
  ⟨hn, fun k hk => (h.ends k hk).keepT hb.keepT (by decide) hb.size, h.dis, hb.keepT _ _ _ h.be (by decide), hb.keepT _ _ _ h.bc (by decide), h.hC, h.bl.trans (hb.below h.bl.size)⟩
/-- A call on end k. -/
theorem LaW.fq (h : LaW w0 wr g gE gC now sent ds fs m f n c gs F G) {k : Nat} (hk : k < 2) {F' : List Nat} {fk nk mk : Nat} {Gk : List (List Nat)} (hq : Fq (F k) wr w') (hsub : SubF (F k) F' wr.heap.size)
    (he : EndS w' w0.heap.size F' (gs k) fk nk ((msgs k mk).drop fk) Gk) :
    LaW w0 w' g gE gC now sent ds fs (upd m k mk) (upd f k fk) (upd n k nk) c gs (fun i => if i = k then F' else F i) (fun i => if i = k then Gk else G i) := by
  have hT := (h.ends k hk).fqT hq
  have hdis : ∀ j, j < 2 → j ≠ k → ∀ b ∈ F', b ∉ F j := fun j hj hjk b hb hbj => by
    rcases hsub b hb with h1 | h1
    · exact h.dis j k hj hk hjk b hbj h1
    · have := ((h.ends j hj).lt b hbj).2; omega
  refine ⟨h.net.keepT hT (by decide), fun j hj => ?_, fun i j hi hj hij b hb hbj => ?_, hT _ _ _ h.be (by decide), hT _ _ _ h.bc (by decide), h.hC, h.bl.trans (hq.below (fun b hb => ((h.ends k hk).lt b hb).1) h.bl.size)⟩
  · by_cases e : j = k
    · subst e
      simp only [upd_same, if_true]
      exact he
    · simp only [upd_other _ _ e, if_neg e]
      exact (h.ends j hj).fq hq fun b hb hbk => h.dis j k hj hk e b hb hbk
  · split at hb <;> split at hbj
    · omega
    · rename_i e1 e2; exact hdis j hj e2 b hb hbj
    · rename_i e1 e2; exact hdis i hi e1 b hbj hb
    · exact h.dis i j hi hj hij b hb hbj
theorem upd_id (g : Nat → Nat) (k : Nat) : upd g k (g k) = g := by
  funext i; unfold upd; split
  · rename_i e; rw [e]
  · rfl
/-- One more message that has come. -/
theorem LaW.count (h : LaW w0 wr g gE gC now sent ds fs m f n c gs F G) {k : Nat} (hk : k < 2) (v : Nat) : LaW w0 (wr.setCell ⟨gC, k, none⟩ (.int .i64 (v : Nat))) g gE gC now sent ds fs m f n (upd c k v) gs F G := by
  have hgr := grownBy_set wr gC k (.int .i64 (v : Nat))
  have hT : KeepT [83] wr (wr.setCell ⟨gC, k, none⟩ (.int .i64 (v : Nat))) := fun b t cs hb ht => hb.far (fun e => by
    have e' : b = gC := e
    subst e'
    exact ht (by rw [Bk.same hb h.bc]; simp)) _
  refine ⟨h.net.keepT hT (by decide), fun j hj => (h.ends j hj).keepT hT (by decide) (by simp [World.setCell]), h.dis, hT _ _ _ h.be (by decide), ?_, h.hC, h.bl.setCell (p := ⟨gC, k, none⟩) h.hC _⟩
  have h2 := h.bc.set_ k (.int .i64 (v : Nat))
  rcases (show k = 0 ∨ k = 1 by omega) with rfl | rfl
  · simpa [upd] using h2
  · simpa [upd] using h2
theorem LaW.c_at (h : LaW w0 wr g gE gC now sent ds fs m f n c gs F G) {k : Nat} (hk : k < 2) : wr.cell? ⟨gC, k, none⟩ = some (.int .i64 (c k)) := by
  rcases (show k = 0 ∨ k = 1 by omega) with rfl | rfl
  · exact h.bc.cell 0
  · exact h.bc.cell 1
theorem LaW.e_at (h : LaW w0 wr g gE gC now sent ds fs m f n c gs F G) {k : Nat} (hk : k < 2) : wr.cell? ⟨gE, k, none⟩ = some (.pointer (some ⟨gs k, 0, none⟩)) := by
  rcases (show k = 0 ∨ k = 1 by omega) with rfl | rfl
  · exact h.be.cell 0
  · exact h.be.cell 1
end
end Go.Proofs.Ytlgcdcjfobfoiaa
