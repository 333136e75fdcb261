/-
  A half whose acknowledged number is set, and one that has a message more. Conditions: a half in memory.
-/
import Derived.Test.YtlgcdcjfobfoiaaLke
namespace Go.Proofs.Ytlgcdcjfobfoiaa
open Go.RowKit
set_option maxRecDepth 100000

section
variable {w w3 : World} {base : Nat} {F : List Nat} {g ack came : Nat} {S N : List Ms} {SA NA : Option Addr} {sc nc g3 c3 q : Nat} {m : Ms}
theorem HalfSt.ne_sent (h : HalfSt w base F g ack came S N SA NA sc nc) : SA.map (·.block) ≠ some g := by
  intro he
  have h1 := h.nodup
  rw [h.fp] at h1
  exact (List.nodup_cons.1 h1).1 (by simp [blkA_mem, he])
theorem HalfSt.ne_new (h : HalfSt w base F g ack came S N SA NA sc nc) : NA.map (·.block) ≠ some g := by
  intro he
  have h1 := h.nodup
  rw [h.fp] at h1
  exact (List.nodup_cons.1 h1).1 (by simp [blkA_mem, he])
theorem HalfSt.ne_rows (h : HalfSt w base F g ack came S N SA NA sc nc) {i : Nat} (h1 : SA.map (·.block) = some i) (h2 : NA.map (·.block) = some i) : False := by
  have h3 := h.nodup
  rw [h.fp] at h3
  have h4 := (List.nodup_append.1 (List.nodup_cons.1 h3).2).2.2
  exact h4 i (blkA_mem.2 h1) i (blkA_mem.2 h2) rfl
theorem HalfSt.dn (h : HalfSt w base F g ack came S N SA NA sc nc) (k : Nat) : HalfSt (w.drewN k) base F g ack came S N SA NA sc nc :=
  ⟨h.bk, h.sent, h.new, h.fp, h.nodup, h.low, fun m hm => (h.okS m hm).byt fun _ _ h => h, fun m hm => (h.okN m hm).byt fun _ _ h => h⟩
theorem HalfSt.ack_ (h : HalfSt w base F g ack came S N SA NA sc nc) (a : Nat) :
    HalfSt (w.setCell ⟨g, 1, none⟩ (.int .i64 a)) base F g a came S N SA NA sc nc ∧ Fq F w (w.setCell ⟨g, 1, none⟩ (.int .i64 a)) := by
  have hgF : g ∈ F := by rw [h.fp]; simp
  have hq1 : Fq F w (w.setCell ⟨g, 1, none⟩ (.int .i64 a)) := Fq.refl.setG (.inl hgF) h.bk (by decide) 1 _
  refine ⟨⟨h.bk.set_ 1 _, own_keepB h.sent fun i hi => ?_, own_keepB h.new fun i hi => ?_, h.fp, h.nodup, fun i hi => ?_, fun m hm => (h.okS m hm).byt hq1.byt, fun m hm => (h.okN m hm).byt hq1.byt⟩, hq1⟩
  · exact Below.heap_setCell _ _ _ _ (show i ≠ g from fun e => h.ne_sent (by rw [← e]; exact own_blk_of hi))
  · exact Below.heap_setCell _ _ _ _ (show i ≠ g from fun e => h.ne_new (by rw [← e]; exact own_blk_of hi))
  · have := h.low i hi
    exact ⟨this.1, by simpa [World.setCell] using this.2⟩

theorem HalfSt.push (h : HalfSt w base F g ack came S N SA NA sc nc) (hm : MsOk w m) (hq : q = N.length)
    (hown3 : w3.ownsRow base 30 1 (.slice (some ⟨g3, 0, none⟩) (q + 1) c3) (q + 1) (msV N ++ [m.v]))
    (hgr : (w.alloc (.cells #[m.v] 30)).grownBy w3 (Value.slice NA q nc).ownBlock) (hat : (Value.slice NA q nc).ownBlock = some g3 ∨ g3 = (w.alloc (.cells #[m.v] 30)).heap.size) :
    ∃ F', HalfSt ((w3.setCell ⟨g, 3, none⟩ (.slice (some ⟨g3, 0, none⟩) (q + 1) c3)).setCell ⟨g, 2, none⟩ (.int .i64 (came + 1 : Nat))) base F' g ack (came + 1) S (N ++ [m]) SA (some ⟨g3, 0, none⟩) sc c3 ∧ SubF F F' w.heap.size ∧
    Fq F w ((w3.setCell ⟨g, 3, none⟩ (.slice (some ⟨g3, 0, none⟩) (q + 1) c3)).setCell ⟨g, 2, none⟩ (.int .i64 (came + 1 : Nat))) := by
  subst hq
  rw [own_blk_to] at hgr hat
  have hgF : g ∈ F := by rw [h.fp]; simp
  have hsz3 := hgr.size
  have hbG : ∀ i, NA.map (·.block) = some i → base ≤ i ∧ ∃ cs, Bk w i 30 cs := fun i hi => own_blk h.new i hi
  have hq3 : Fq F w w3 := (Fq.refl.alloc (.cells #[m.v] 30)).grown hgr (fun i hi => by
    obtain ⟨_, cs, hbk⟩ := hbG i hi
    exact ⟨.inl (by rw [h.fp]; simp [blkA_mem, hi]), 30, cs, hbk.alloc _, by decide⟩)
  have hk3 : Bk w3 g 76 #[.slice SA S.length sc, .int .i64 ack, .int .i64 came, .slice NA N.length nc] := (h.bk.alloc _).grown hgr (fun e => h.ne_new e.symm)
  have hk4 := hk3.set_ 3 (.slice (some ⟨g3, 0, none⟩) (N.length + 1) c3)
  have hq4 := hq3.setG (.inl hgF) hk3 (by decide) 3 (.slice (some ⟨g3, 0, none⟩) (N.length + 1) c3)
  have hq5 := hq4.setG (.inl hgF) hk4 (by decide) 2 (.int .i64 (came + 1 : Nat))
  have hng : g3 ≠ g := by
    rintro rfl
    rcases hat with h1 | h1
    · exact h.ne_new h1
    · have := h.bk.lt; simp at h1; omega
  have hnw : ∀ i, SA.map (·.block) = some i → i ≠ g3 := by
    rintro i hi rfl
    rcases hat with h1 | h1
    · exact h.ne_rows hi h1
    · have := (h.low i (by rw [h.fp]; simp [blkA_mem, hi])).2; simp at h1; omega
  refine ⟨g :: (blkA SA ++ [g3]), ⟨?_, ?_, ?_, rfl, ?_, ?_, fun x hx => (h.okS x hx).byt hq5.byt, fun x hx => ?_⟩, ?_, hq5⟩
  · have := hk4.set_ 2 (.int .i64 (came + 1 : Nat))
    rw [List.length_append]; exact this
  · refine own_keepB h.sent fun i hi => ?_
    have hi' := own_blk_of hi
    have hne : i ≠ g := fun e => h.ne_sent (by rw [← e]; exact hi')
    have hlt := (h.low i (by rw [h.fp]; simp [blkA_mem, hi'])).2
    exact (Below.heap_setCell _ _ _ _ hne).trans ((Below.heap_setCell _ _ _ _ hne).trans ((hgr.block i (by simp; omega) (fun e => h.ne_rows hi' e.symm)).trans (Below.heap_alloc _ _ _ hlt)))
  · rw [List.length_append, msV_append]
    refine own_keepB hown3 fun i hi => ?_
    have hi' : i = g3 := by simp [Value.ownBlock] at hi; exact hi.symm
    have hne : i ≠ g := by rw [hi']; exact hng
    exact (Below.heap_setCell _ _ _ _ hne).trans (Below.heap_setCell _ _ _ _ hne)
  · have h1 := h.nodup
    rw [h.fp] at h1
    have h2 := List.nodup_cons.1 h1
    refine List.nodup_cons.2 ⟨fun hk => ?_, List.nodup_append.2 ⟨(List.nodup_append.1 h2.2).1, by simp, fun a ha b hb => ?_⟩⟩
    · rcases List.mem_append.1 hk with hk | hk
      · exact h2.1 (List.mem_append_left _ hk)
      · exact hng (List.mem_singleton.1 hk).symm
    · rw [List.mem_singleton.1 hb]; exact hnw a (blkA_mem.1 ha)
  · intro k hk
    have hs5 := hq5.size
    rcases List.mem_cons.1 hk with rfl | hk
    · exact ⟨(h.low k hgF).1, Nat.lt_of_lt_of_le (h.low k hgF).2 hs5⟩
    rcases List.mem_append.1 hk with hk | hk
    · have h1 := h.low k (by rw [h.fp]; simp [hk])
      exact ⟨h1.1, Nat.lt_of_lt_of_le h1.2 hs5⟩
    · obtain rfl := List.mem_singleton.1 hk
      obtain ⟨h1, cs, h2⟩ := own_blk hown3 k rfl
      have := h2.lt
      exact ⟨h1, by simpa [World.setCell] using this⟩
  · rcases List.mem_append.1 hx with hx | hx
    · exact (h.okN x hx).byt hq5.byt
    · obtain rfl := List.mem_singleton.1 hx
      exact hm.byt hq5.byt
  · intro k hk
    rcases List.mem_cons.1 hk with rfl | hk
    · exact .inl hgF
    rcases List.mem_append.1 hk with hk | hk
    · exact .inl (by rw [h.fp]; simp [hk])
    · obtain rfl := List.mem_singleton.1 hk
      rcases hat with h1 | h1
      · exact .inl (by rw [h.fp]; simp [blkA_mem, h1])
      · right; simp at h1; omega
end

/-- What a half is after a packet: acknowledged, came, new; the error. -/
def tkR (ack came : Nat) (S N : List (List Nat)) (l : List Nat) : (Nat × Nat × List (List Nat)) × Nat :=
  if (openR l).2 ≠ 0 then ((ack, came, N), (openR l).2)
  else if S.length < (openR l).1.1 then ((ack, came, N), 9)
  else ((max ack (openR l).1.1, (dvN (openR l).1.2.1 came (openR l).1.2.2 (openR l).1.2.2.length).1, N ++ (dvN (openR l).1.2.1 came (openR l).1.2.2 (openR l).1.2.2.length).2), 0)
def HalfP (w : World) (base : Nat) (F : List Nat) (g ack came : Nat) (S N : List (List Nat)) (v : Value) (e : Ending) (w' : World) : Prop :=
  ∃ F', e = .returned v ∧ HalfS w' base F' g ack came S N ∧ SubF F F' w.heap.size ∧ Fq F w w'
def TakeP (w : World) (base : Nat) (F : List Nat) (g : Nat) (S : List (List Nat)) (r : (Nat × Nat × List (List Nat)) × Nat) (e : Ending) (w' : World) : Prop :=
  HalfP w base F g r.1.1 r.1.2.1 S r.1.2.2 (.int .i64 r.2) e w'
theorem tkR_err {ack came : Nat} {S N : List (List Nat)} {l : List Nat} (h : (openR l).2 ≠ 0) : tkR ack came S N l = ((ack, came, N), (openR l).2) := by unfold tkR; rw [if_pos h]
theorem tkR_order {ack came : Nat} {S N : List (List Nat)} {l : List Nat} (h : (openR l).2 = 0) (h2 : S.length < (openR l).1.1) : tkR ack came S N l = ((ack, came, N), 9) := by
  unfold tkR; rw [if_neg (by simp [h]), if_pos h2]
theorem tkR_ok {ack came : Nat} {S N : List (List Nat)} {l : List Nat} (h : (openR l).2 = 0) (h2 : ¬ S.length < (openR l).1.1) : tkR ack came S N l = ((max ack (openR l).1.1, (dvN (openR l).1.2.1 came (openR l).1.2.2 (openR l).1.2.2.length).1, N ++ (dvN (openR l).1.2.1 came (openR l).1.2.2 (openR l).1.2.2.length).2), 0) := by
  unfold tkR; rw [if_neg (by simp [h]), if_neg h2]
theorem HalfP.same {w w1 : World} {base : Nat} {F : List Nat} {g ack came : Nat} {S N : List (List Nat)} {v : Value} (h : HalfS w base F g ack came S N) (hb : Below w.heap.size w w1) : HalfP w base F g ack came S N v (.returned v) w1 :=
  ⟨F, rfl, h.below hb, SubF.refl _ _, Fq.of_below hb⟩
theorem TakeP.err {w w1 : World} {base : Nat} {F : List Nat} {g ack came : Nat} {S N : List (List Nat)} {l : List Nat} {k : Nat} (h : HalfS w base F g ack came S N) (hk : openR l = ((0, 0, []), k)) (hk0 : k ≠ 0) (hb : Below w.heap.size w w1) : TakeP w base F g S (tkR ack came S N l) (.returned (.int .i64 k)) w1 := by
  have h2 : (openR l).2 = k := by rw [hk]
  unfold TakeP
  rw [tkR_err (by rw [h2]; exact hk0), h2]
  exact HalfP.same h hb
end Go.Proofs.Ytlgcdcjfobfoiaa
