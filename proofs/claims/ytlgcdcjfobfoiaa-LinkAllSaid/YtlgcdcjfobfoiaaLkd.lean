/-
  An end whose waiting messages are cut in front, and one that has got a message more. Conditions: an end in memory.
-/
import Derived.Test.YtlgcdcjfobfoiaaLkc
namespace Go.Proofs.Ytlgcdcjfobfoiaa
open Go.RowKit
set_option maxRecDepth 100000

theorem Sh.cut {w : World} {base n c k : Nat} {e : TypeId} {A : Option Addr} {xs : List Value} (h : Sh w base e 1 A n c xs) (hk : k ≤ n) : Sh w base e 1 (cutA A c k) (n - k) (c - k) (xs.drop k) := by
  obtain ⟨h1, h2, h3, h4⟩ := h
  refine ⟨by rw [List.length_drop, h1]; omega, by omega, by omega, ?_⟩
  unfold cutA
  rcases h4 with ⟨rfl, rfl⟩ | ⟨g, pre, post, rfl, hb, hbk, hp⟩
  · left; simp
  · by_cases hc : c = k
    · rw [if_pos hc]
      right
      have hd : xs.drop k = [] := List.drop_eq_nil_of_le (by rw [h1]; omega)
      refine ⟨g, pre, xs ++ post, rfl, hb, ?_, by omega⟩
      rw [hd]; simpa using hbk
    · rw [if_neg hc]
      right
      refine ⟨g, pre ++ xs.take k, post, ?_, hb, ?_, ?_⟩
      · simp [Addr.add_lit, h1]; try omega
      · rw [List.append_assoc, ← List.append_assoc (xs.take k), List.take_append_drop]; exact hbk
      · omega

theorem add_block (a : Addr) (k : Nat) : (a.add k).block = a.block := by
  obtain ⟨b, o, x⟩ := a
  cases x <;> simp only [Addr.add] <;> split <;> rfl
theorem cutA_block {A : Option Addr} {c k g : Nat} : (cutA A c k).map (·.block) = some g ↔ A.map (·.block) = some g := by
  unfold cutA
  split
  · exact Iff.rfl
  · cases A with
    | none => simp
    | some a => simp [add_block]
theorem blkA_cut (A : Option Addr) (c k : Nat) : blkA (cutA A c k) = blkA A := by
  unfold cutA blkA
  split
  · rfl
  · cases A with
    | none => rfl
    | some a => simp [add_block]

theorem EndSt.ack {w : World} {base : Nat} {F : List Nat} {g first next : Nat} {W G : List Ms} {WA GA : Option Addr} {wc gc : Nat} (h : EndSt w base F g first next W G WA GA wc gc) (k q : Nat) (hk : k ≤ W.length) (hq : q = W.length - k) :
    EndSt ((w.setCell ⟨g, 1, none⟩ (.slice (cutA WA wc k) q (wc - k))).setCell ⟨g, 0, none⟩ (.int .i64 (first + k : Nat))) base F g (first + k) next (W.drop k) G (cutA WA wc k) GA (wc - k) gc ∧
    Fq F w ((w.setCell ⟨g, 1, none⟩ (.slice (cutA WA wc k) q (wc - k))).setCell ⟨g, 0, none⟩ (.int .i64 (first + k : Nat))) := by
  subst hq
  have hgF : g ∈ F := by rw [h.fp]; simp
  have h1 := h.bk.set_ 1 (.slice (cutA WA wc k) (W.length - k) (wc - k))
  have hq1 : Fq F w (w.setCell ⟨g, 1, none⟩ (.slice (cutA WA wc k) (W.length - k) (wc - k))) := Fq.refl.setG (.inl hgF) h.bk (by decide) 1 _
  have hq2 := hq1.setG (.inl hgF) h1 (by decide) 0 (.int .i64 (first + k : Nat))
  refine ⟨⟨?_, ?_, ?_, by rw [h.fp, blkA_cut], h.nodup, fun i hi => ?_, fun m hm => (h.okW m (List.mem_of_mem_drop hm)).byt hq2.byt, fun m hm => (h.okG m hm).byt hq2.byt⟩, hq2⟩
  · have h2 := h1.set_ 0 (.int .i64 (first + k : Nat))
    rw [List.length_drop]
    exact h2
  · have h3 : Sh w base 30 1 (cutA WA wc k) (W.length - k) (wc - k) (msV (W.drop k)) := by
      have := h.wait.cut hk
      unfold msV at this ⊢
      rw [List.map_drop]; exact this
    rw [List.length_drop]
    refine h3.keep fun i cs hi hb => ?_
    have hne : i ≠ g := fun e => h.ne_wait (by rw [← e]; exact cutA_block.1 hi)
    exact (hb.far hne _).far hne _
  · refine own_keepB h.got fun i hi => ?_
    have hne : i ≠ g := fun e => h.ne_got (by rw [← e]; exact own_blk_of hi)
    exact (Below.heap_setCell _ _ _ _ hne).trans (Below.heap_setCell _ _ _ _ hne)
  · have := h.low i hi
    exact ⟨this.1, by simpa [World.setCell] using this.2⟩

theorem EndSt.push {w w3 : World} {base : Nat} {F : List Nat} {g first next : Nat} {W G : List Ms} {WA GA : Option Addr} {wc gc g3 c3 q : Nat} {m : Ms} (h : EndSt w base F g first next W G WA GA wc gc) (hm : MsOk w m) (hq : q = G.length)
    (hown3 : w3.ownsRow base 30 1 (.slice (some ⟨g3, 0, none⟩) (q + 1) c3) (q + 1) (msV G ++ [m.v]))
    (hgr : (w.alloc (.cells #[m.v] 30)).grownBy w3 (Value.slice GA q gc).ownBlock) (hat : (Value.slice GA q gc).ownBlock = some g3 ∨ g3 = (w.alloc (.cells #[m.v] 30)).heap.size) :
    ∃ F', EndSt ((w3.setCell ⟨g, 3, none⟩ (.slice (some ⟨g3, 0, none⟩) (q + 1) c3)).setCell ⟨g, 2, none⟩ (.int .i64 (next + 1 : Nat))) base F' g first (next + 1) W (G ++ [m]) WA (some ⟨g3, 0, none⟩) wc c3 ∧ SubF F F' w.heap.size ∧
    Fq F w ((w3.setCell ⟨g, 3, none⟩ (.slice (some ⟨g3, 0, none⟩) (q + 1) c3)).setCell ⟨g, 2, none⟩ (.int .i64 (next + 1 : Nat))) := by
  subst hq
  rw [own_blk_to] at hgr hat
  have hgF : g ∈ F := by rw [h.fp]; simp
  have hsz3 := hgr.size
  have hbG : ∀ i, GA.map (·.block) = some i → base ≤ i ∧ ∃ cs, Bk w i 30 cs := fun i hi => own_blk h.got i hi
  have hq3 : Fq F w w3 := (Fq.refl.alloc (.cells #[m.v] 30)).grown hgr (fun i hi => by
    obtain ⟨_, cs, hbk⟩ := hbG i hi
    exact ⟨.inl (by rw [h.fp]; simp [blkA_mem, hi]), 30, cs, hbk.alloc _, by decide⟩)
  have hk3 : Bk w3 g 123 #[.int .i64 first, .slice WA W.length wc, .int .i64 next, .slice GA G.length gc] := (h.bk.alloc _).grown hgr (fun e => h.ne_got e.symm)
  have hk4 := hk3.set_ 3 (.slice (some ⟨g3, 0, none⟩) (G.length + 1) c3)
  have hq4 := hq3.setG (.inl hgF) hk3 (by decide) 3 (.slice (some ⟨g3, 0, none⟩) (G.length + 1) c3)
  have hq5 := hq4.setG (.inl hgF) hk4 (by decide) 2 (.int .i64 (next + 1 : Nat))
  have hng : g3 ≠ g := by
    rintro rfl
    rcases hat with h1 | h1
    · exact h.ne_got h1
    · have := h.bk.lt; simp at h1; omega
  have hnw : ∀ i, WA.map (·.block) = some i → i ≠ g3 := by
    rintro i hi rfl
    rcases hat with h1 | h1
    · exact h.ne_rows hi h1
    · have := (h.low i (by rw [h.fp]; simp [blkA_mem, hi])).2; simp at h1; omega
  refine ⟨g :: (blkA WA ++ [g3]), ⟨?_, ?_, ?_, rfl, ?_, ?_, fun x hx => (h.okW x hx).byt hq5.byt, fun x hx => ?_⟩, ?_, hq5⟩
  · have := hk4.set_ 2 (.int .i64 (next + 1 : Nat))
    rw [List.length_append]; exact this
  · refine h.wait.keep fun i cs hi hb => ?_
    have hne : i ≠ g := fun e => h.ne_wait (by rw [← e]; exact hi)
    exact (((hb.alloc _).grown hgr (fun e => h.ne_rows hi e.symm)).far hne _).far hne _
  · rw [List.length_append, msV_append]
    refine own_keepB hown3 fun i hi => ?_
    have hi' : i = g3 := by simp [Value.ownBlock] at hi; exact hi.symm
    have hne : i ≠ g := by rw [hi']; exact hng
    exact (Below.heap_setCell _ _ _ _ hne).trans (Below.heap_setCell _ _ _ _ hne)
  · have h1 := h.nodup
    rw [h.fp] at h1
    have h2 := List.nodup_cons.1 h1
    refine List.nodup_cons.2 ⟨fun hk => ?_, List.nodup_append.2 ⟨(List.nodup_append.1 h2.2).1, by simp, fun a ha b hb => ?_⟩⟩
    · rcases List.mem_append.1 hk with hk | hk
      · exact h2.1 (List.mem_append_left _ hk)
      · exact hng (List.mem_singleton.1 hk).symm
    · rw [List.mem_singleton.1 hb]; exact hnw a (blkA_mem.1 ha)
  · intro k hk
    have hs5 := hq5.size
    rcases List.mem_cons.1 hk with rfl | hk
    · exact ⟨(h.low k hgF).1, Nat.lt_of_lt_of_le (h.low k hgF).2 hs5⟩
    rcases List.mem_append.1 hk with hk | hk
    · have h1 := h.low k (by rw [h.fp]; simp [hk])
      exact ⟨h1.1, Nat.lt_of_lt_of_le h1.2 hs5⟩
    · obtain rfl := List.mem_singleton.1 hk
      obtain ⟨h1, cs, h2⟩ := own_blk hown3 k rfl
      have := h2.lt
      exact ⟨h1, by simpa [World.setCell] using this⟩
  · rcases List.mem_append.1 hx with hx | hx
    · exact (h.okG x hx).byt hq5.byt
    · obtain rfl := List.mem_singleton.1 hx
      exact hm.byt hq5.byt
  · intro k hk
    rcases List.mem_cons.1 hk with rfl | hk
    · exact .inl hgF
    rcases List.mem_append.1 hk with hk | hk
    · exact .inl (by rw [h.fp]; simp [hk])
    · obtain rfl := List.mem_singleton.1 hk
      rcases hat with h1 | h1
      · exact .inl (by rw [h.fp]; simp [blkA_mem, h1])
      · right; simp at h1; omega
end Go.Proofs.Ytlgcdcjfobfoiaa
