/-
  What a call on a connection's end may touch ('Fq'); an end in memory ('EndS'); the contracts of New, Send, Waiting, Got. Conditions: messages that can be read, fewer than 500 that wait.
-/
import Derived.Test.YtlgcdcjfobfoiaaLk4
namespace Go.Proofs.Ytlgcdcjfobfoiaa
open Go.RowKit
set_option maxRecDepth 100000

/-! ### What a call may have touched: the blocks of F, and what is new; no bytes -/
structure Fq (F : List Nat) (w w' : World) : Prop where
  os : w'.os = w.os
  tape : w'.tape = w.tape
  output : w'.output = w.output
  size : w.heap.size ≤ w'.heap.size
  low : ∀ k, k < w.heap.size → k ∉ F → w'.heap[k]? = w.heap[k]?
  byt : ∀ k cs, Bk w k 5 cs → Bk w' k 5 cs
/-- F' is F, but for what is new. -/
def SubF (F F' : List Nat) (s : Nat) : Prop := ∀ k ∈ F', k ∈ F ∨ s ≤ k
section
variable {F F' G : List Nat} {a b c w w' : World} {B : Nat}
theorem Fq.refl : Fq F w w := ⟨rfl, rfl, rfl, Nat.le_refl _, fun _ _ _ => rfl, fun _ _ h => h⟩
theorem Fq.trans (h : Fq F a b) (k : Fq G b c) (hs : SubF F G a.heap.size) : Fq F a c :=
  ⟨k.os.trans h.os, k.tape.trans h.tape, k.output.trans h.output, Nat.le_trans h.size k.size,
   fun i h1 h2 => (k.low i (Nat.lt_of_lt_of_le h1 h.size) (fun hi => by rcases hs i hi with hj | hj; exact h2 hj; omega)).trans (h.low i h1 h2),
   fun i cs h1 => k.byt i cs (h.byt i cs h1)⟩
theorem Fq.of_below (h : Below w.heap.size w w') : Fq F w w' :=
  ⟨h.os, h.tape, h.output, h.size, fun k hk _ => h.block k hk, fun k _ hk => (h.block k hk.lt).trans hk⟩
theorem Fq.below (h : Fq F w w') (hF : ∀ k ∈ F, B ≤ k) (hB : B ≤ w.heap.size) : Below B w w' :=
  ⟨h.os, h.tape, h.output, h.size, fun k hk => h.low k (by omega) (fun hi => by have := hF k hi; omega)⟩
theorem SubF.refl (F : List Nat) (s : Nat) : SubF F F s := fun _ h => .inl h
theorem SubF.trans {s t : Nat} (h : SubF F F' s) (k : SubF F' G t) (hst : s ≤ t) : SubF F G s := fun i hi => by
  rcases k i hi with hj | hj
  · exact h i hj
  · exact .inr (by omega)
theorem SubF.weak {s t : Nat} (k : SubF F F' t) (hst : s ≤ t) : SubF F F' s := fun i hi => by
  rcases k i hi with hj | hj
  · exact .inl hj
  · exact .inr (by omega)
theorem Tr.byt {size n : Nat} {A : Option Addr} {xs : List Value} (h : Tr w 5 size A n xs) (hb : ∀ k cs, Bk w k 5 cs → Bk w' k 5 cs) : Tr w' 5 size A n xs :=
  ⟨h.1, fun hn => by obtain ⟨b, o, cs, hA, hk, hc⟩ := h.2 hn; exact ⟨b, o, cs, hA, hb _ _ hk, hc⟩⟩
theorem MsOk.byt {m : Ms} (h : MsOk w m) (hb : ∀ k cs, Bk w k 5 cs → Bk w' k 5 cs) : MsOk w' m := ⟨h.tr.byt hb, h.len, h.cap, h.cap2, h.lt⟩
theorem own_keepB {base size n : Nat} {e : TypeId} {v : Value} {xs : List Value} (h : w.ownsRow base e size v n xs) (hk : ∀ g, v.ownBlock = some g → w'.heap[g]? = w.heap[g]?) : w'.ownsRow base e size v n xs := by
  refine ⟨h.1, ?_⟩
  rcases h.2 with h2 | ⟨g, cap, cur, rfl, h3, h4, h5⟩
  · exact .inl h2
  · exact .inr ⟨g, cap, cur, rfl, h3, (hk g rfl).trans h4, h5⟩
end

def blkA (A : Option Addr) : List Nat := (A.map (·.block)).toList
theorem blkA_mem {A : Option Addr} {k : Nat} : k ∈ blkA A ↔ A.map (·.block) = some k := by
  unfold blkA; simp [Option.mem_toList]

/-- An end at block g; F: its blocks. -/
structure EndSt (w : World) (base : Nat) (F : List Nat) (g first next : Nat) (W G : List Ms) (WA GA : Option Addr) (wc gc : Nat) : Prop where
  bk : Bk w g 123 #[.int .i64 first, .slice WA W.length wc, .int .i64 next, .slice GA G.length gc]
  wait : Sh w base 30 1 WA W.length wc (msV W)
  got : w.ownsRow base 30 1 (.slice GA G.length gc) G.length (msV G)
  fp : F = g :: (blkA WA ++ blkA GA)
  nodup : F.Nodup
  low : ∀ k ∈ F, base ≤ k ∧ k < w.heap.size
  okW : ∀ m ∈ W, MsOk w m
  okG : ∀ m ∈ G, MsOk w m

theorem Sh.block_lt {w : World} {base size n c : Nat} {e : TypeId} {A : Option Addr} {xs : List Value} (h : Sh w base e size A n c xs) : ∀ g, A.map (·.block) = some g → base ≤ g ∧ ∃ cs, Bk w g e cs := by
  intro g hg
  obtain ⟨_, _, _, h4⟩ := h
  rcases h4 with ⟨rfl, _⟩ | ⟨g', pre, post, rfl, hb, hbk, _⟩
  · cases hg
  · cases hg; exact ⟨hb, _, hbk⟩
theorem own_blk {w : World} {base size n c : Nat} {e : TypeId} {A : Option Addr} {xs : List Value} (h : w.ownsRow base e size (.slice A n c) n xs) : ∀ g, A.map (·.block) = some g → base ≤ g ∧ ∃ cs, Bk w g e cs := by
  intro g hg
  rcases h.2 with ⟨hv, _⟩ | ⟨g', cap, cur, hv, hb, hh, _⟩
  · injection hv with hA; subst hA; cases hg
  · injection hv with hA; subst hA; cases hg; exact ⟨hb, _, hh⟩

theorem EndSt.keep {w w' : World} {base : Nat} {F : List Nat} {g first next : Nat} {W G : List Ms} {WA GA : Option Addr} {wc gc : Nat} (h : EndSt w base F g first next W G WA GA wc gc) (hF : ∀ k ∈ F, w'.heap[k]? = w.heap[k]?) (hs : w.heap.size ≤ w'.heap.size) (hb : ∀ k cs, Bk w k 5 cs → Bk w' k 5 cs) : EndSt w' base F g first next W G WA GA wc gc := by
  have hfp := h.fp
  refine ⟨(hF g (by rw [hfp]; simp)).trans h.bk, h.wait.keep fun k cs hk hbk => (hF k (by rw [hfp]; simp [blkA_mem, hk])).trans hbk, own_keepB h.got fun k hk => hF k ?_, hfp, h.nodup, fun k hk => ⟨(h.low k hk).1, Nat.lt_of_lt_of_le (h.low k hk).2 hs⟩, fun m hm => (h.okW m hm).byt hb, fun m hm => (h.okG m hm).byt hb⟩
  rw [hfp]
  cases GA with
  | none => cases hk
  | some a => simp [Value.ownBlock] at hk; simp [blkA_mem, hk]

/-- An end, by what it holds. -/
def EndS (w : World) (base : Nat) (F : List Nat) (g first next : Nat) (W G : List (List Nat)) : Prop :=
  ∃ (Ws Gs : List Ms) (WA GA : Option Addr) (wc gc : Nat), EndSt w base F g first next Ws Gs WA GA wc gc ∧ Ws.map Ms.dat = W ∧ Gs.map Ms.dat = G
theorem EndS.keep {w w' : World} {base : Nat} {F : List Nat} {g first next : Nat} {W G : List (List Nat)} (h : EndS w base F g first next W G) (hF : ∀ k ∈ F, w'.heap[k]? = w.heap[k]?) (hs : w.heap.size ≤ w'.heap.size) (hb : ∀ k cs, Bk w k 5 cs → Bk w' k 5 cs) : EndS w' base F g first next W G := by
  obtain ⟨Ws, Gs, WA, GA, wc, gc, h, h1, h2⟩ := h
  exact ⟨Ws, Gs, WA, GA, wc, gc, h.keep hF hs hb, h1, h2⟩
theorem EndS.below {w w' : World} {base : Nat} {F : List Nat} {g first next : Nat} {W G : List (List Nat)} (h : EndS w base F g first next W G) (hb : Below w.heap.size w w') : EndS w' base F g first next W G := by
  have hlow : ∀ k ∈ F, k < w.heap.size := by obtain ⟨_, _, _, _, _, _, h, _⟩ := h; exact fun k hk => (h.low k hk).2
  exact h.keep (fun k hk => hb.block k (hlow k hk)) hb.size fun k cs hk => (hb.block k hk.lt).trans hk

set_option maxHeartbeats 800000 in
theorem linkNew_any (w : World) : Calls Try.prog 44 #[] w fun e w' => e = .returned (.pointer (some ⟨w.heap.size, 0, none⟩)) ∧ w' = w.alloc (.cells #[.int .i64 0, .slice none 0 0, .int .i64 0, .slice none 0 0] 123) := by
  go_enter Try.func44, Try.ntmps44
  go_wp2_with fail
  go_ret
  exact ⟨rfl, rfl⟩
theorem EndS.new (w : World) (base : Nat) (hb : base ≤ w.heap.size) : EndS (w.alloc (.cells #[.int .i64 0, .slice none 0 0, .int .i64 0, .slice none 0 0] 123)) base [w.heap.size] w.heap.size 0 0 [] [] :=
  ⟨[], [], none, none, 0, 0, ⟨Bk.new w _ _, Sh.nil_ _ _ _ _, World.ownsRow_nil _ _ _ _, rfl, by simp, by simp; omega, by simp, by simp⟩, rfl, rfl⟩

theorem waiting_any {base : Nat} {F : List Nat} {g first next : Nat} {W G : List (List Nat)} (w : World) (h : EndS w base F g first next W G) :
    Calls Try.prog 50 #[.pointer (some ⟨g, 0, none⟩)] w fun e w' => e = .returned (.int .i64 W.length) ∧ w = w' := by
  obtain ⟨Ws, Gs, WA, GA, wc, gc, h, rfl, rfl⟩ := h
  have c1 := h.bk.cell 1
  simp only [List.length_map]
  clear h
  replace c1 : w.cell? ⟨g, 1, none⟩ = some (.slice WA Ws.length wc) := c1
  generalize Ws.length = n at *
  go_enter Try.func50, Try.ntmps50
  go_wp2_with fail
  go_ret
  exact ⟨rfl, rfl⟩

/-- What a call on an end leaves. -/
def EndP (w : World) (base : Nat) (F : List Nat) (g first next : Nat) (W G : List (List Nat)) (v : Value) (e : Ending) (w' : World) : Prop :=
  ∃ F', e = .returned v ∧ EndS w' base F' g first next W G ∧ SubF F F' w.heap.size ∧ Fq F w w'

end Go.Proofs.Ytlgcdcjfobfoiaa
