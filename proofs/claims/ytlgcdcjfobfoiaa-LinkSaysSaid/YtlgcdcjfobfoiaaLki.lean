/-
  What holds between the rounds of the law LinkSays: two ends, two models, two lists of packets. Conditions: none.
-/
import Derived.Test.YtlgcdcjfobfoiaaLkg
namespace Go.Proofs.Ytlgcdcjfobfoiaa
open Go.RowKit
set_option maxRecDepth 100000

section
variable {w w3 w' : World} {base g ack came g3 c3 q : Nat} {F : List Nat} {S N : List Ms} {SA NA : Option Addr} {sc nc : Nat} {m : Ms}
theorem HalfSt.sendM (h : HalfSt w base F g ack came S N SA NA sc nc) (hm : MsOk w m) (hq : q = S.length)
    (hown3 : w3.ownsRow base 30 1 (.slice (some ⟨g3, 0, none⟩) (q + 1) c3) (q + 1) (msV S ++ [m.v]))
    (hgr : (w.alloc (.cells #[m.v] 30)).grownBy w3 (Value.slice SA q sc).ownBlock) (hat : (Value.slice SA q sc).ownBlock = some g3 ∨ g3 = (w.alloc (.cells #[m.v] 30)).heap.size) :
    ∃ F', HalfSt (w3.setCell ⟨g, 0, none⟩ (.slice (some ⟨g3, 0, none⟩) (q + 1) c3)) base F' g ack came (S ++ [m]) N (some ⟨g3, 0, none⟩) NA c3 nc ∧ SubF F F' w.heap.size ∧
    Fq F w (w3.setCell ⟨g, 0, none⟩ (.slice (some ⟨g3, 0, none⟩) (q + 1) c3)) := by
  subst hq
  rw [own_blk_to] at hgr hat
  have hgF : g ∈ F := by rw [h.fp]; simp
  have hsz3 := hgr.size
  have hbG : ∀ i, SA.map (·.block) = some i → base ≤ i ∧ ∃ cs, Bk w i 30 cs := fun i hi => own_blk h.sent i hi
  have hq3 : Fq F w w3 := (Fq.refl.alloc (.cells #[m.v] 30)).grown hgr (fun i hi => by
    obtain ⟨_, cs, hbk⟩ := hbG i hi
    exact ⟨.inl (by rw [h.fp]; simp [blkA_mem, hi]), 30, cs, hbk.alloc _, by decide⟩)
  have hk3 : Bk w3 g 76 #[.slice SA S.length sc, .int .i64 ack, .int .i64 came, .slice NA N.length nc] := (h.bk.alloc _).grown hgr (fun e => h.ne_sent e.symm)
  have hq5 := hq3.setG (.inl hgF) hk3 (by decide) 0 (.slice (some ⟨g3, 0, none⟩) (S.length + 1) c3)
  have hng : g3 ≠ g := by
    rintro rfl
    rcases hat with h1 | h1
    · exact h.ne_sent h1
    · have := h.bk.lt; simp at h1; omega
  have hnw : ∀ i, NA.map (·.block) = some i → i ≠ g3 := by
    rintro i hi rfl
    rcases hat with h1 | h1
    · exact h.ne_rows h1 hi
    · have := (h.low i (by rw [h.fp]; simp [blkA_mem, hi])).2; simp at h1; omega
  refine ⟨g :: ([g3] ++ blkA NA), ⟨?_, ?_, ?_, rfl, ?_, ?_, fun x hx => ?_, fun x hx => (h.okN x hx).byt hq5.byt⟩, ?_, hq5⟩
  · have := hk3.set_ 0 (.slice (some ⟨g3, 0, none⟩) (S.length + 1) c3)
    rw [List.length_append]; exact this
  · rw [List.length_append, msV_append]
    refine own_keepB hown3 fun i hi => ?_
    have hi' : i = g3 := by simp [Value.ownBlock] at hi; exact hi.symm
    have hne : i ≠ g := by rw [hi']; exact hng
    exact Below.heap_setCell _ _ _ _ hne
  · refine own_keepB h.new fun i hi => ?_
    have hi' := own_blk_of hi
    have hne : i ≠ g := fun e => h.ne_new (by rw [← e]; exact hi')
    have hlt := (h.low i (by rw [h.fp]; simp [blkA_mem, hi'])).2
    exact (Below.heap_setCell _ _ _ _ hne).trans ((hgr.block i (by simp; omega) (fun e => h.ne_rows e.symm hi')).trans (Below.heap_alloc _ _ _ hlt))
  · have h1 := h.nodup
    rw [h.fp] at h1
    have h2 := List.nodup_cons.1 h1
    refine List.nodup_cons.2 ⟨fun hk => ?_, List.nodup_cons.2 ⟨fun hk => hnw g3 (blkA_mem.1 hk) rfl, (List.nodup_append.1 h2.2).2.1⟩⟩
    rcases List.mem_append.1 hk with hk | hk
    · exact hng (List.mem_singleton.1 hk).symm
    · exact h2.1 (List.mem_append_right _ hk)
  · intro k hk
    have hs5 := hq5.size
    rcases List.mem_cons.1 hk with rfl | hk
    · exact ⟨(h.low k hgF).1, Nat.lt_of_lt_of_le (h.low k hgF).2 hs5⟩
    rcases List.mem_append.1 hk with hk | hk
    · obtain rfl := List.mem_singleton.1 hk
      obtain ⟨h1, cs, h2⟩ := own_blk hown3 k rfl
      have := h2.lt
      exact ⟨h1, by simpa [World.setCell] using this⟩
    · have h1 := h.low k (by rw [h.fp]; simp [hk])
      exact ⟨h1.1, Nat.lt_of_lt_of_le h1.2 hs5⟩
  · rcases List.mem_append.1 hx with hx | hx
    · exact (h.okS x hx).byt hq5.byt
    · obtain rfl := List.mem_singleton.1 hx
      exact hm.byt hq5.byt
  · intro k hk
    rcases List.mem_cons.1 hk with rfl | hk
    · exact .inl hgF
    rcases List.mem_append.1 hk with hk | hk
    · obtain rfl := List.mem_singleton.1 hk
      rcases hat with h1 | h1
      · exact .inl (by rw [h.fp]; simp [blkA_mem, h1])
      · right; simp at h1; omega
    · exact .inl (by rw [h.fp]; simp [hk])
end

/-! ### A packet changes an end and its model in the same way -/
theorem in_tk {first next : Nat} {S G : List (List Nat)} (l : List Nat) (hf : first ≤ S.length) : ∃ f' n' G' code,
    inR first next (S.drop first) G l = ((f', n', S.drop f', G'), code) ∧ tkR first next S G l = ((f', n', G'), code) ∧ f' ≤ S.length ∧ n' ≤ next + 8 ∧ G'.length ≤ G.length + 8 := by
  have hlen := openR_len l
  have h1 := dvN_le (openR l).1.2.1 next (openR l).1.2.2 (openR l).1.2.2.length
  have h2 := dvN_len (openR l).1.2.1 next (openR l).1.2.2 (openR l).1.2.2.length
  by_cases he : (openR l).2 = 0
  · by_cases ho : S.length < (openR l).1.1
    · exact ⟨first, next, G, 9, inR_order he (by rw [List.length_drop]; omega), tkR_order he ho, hf, by omega, by omega⟩
    · refine ⟨max first (openR l).1.1, _, _, 0, (inR_ok he (by rw [List.length_drop]; omega)).trans ?_, tkR_ok he ho, by omega, ?_, ?_⟩
      · rw [List.drop_drop, show first + ((openR l).1.1 - first) = max first (openR l).1.1 by omega]
      · omega
      · rw [List.length_append]; omega
  · exact ⟨first, next, G, (openR l).2, inR_err he, tkR_err he, hf, by omega, by omega⟩

/-- One side: its end, its model, and what is in the air for it. -/
structure Sd where
  F : List Nat
  H : List Nat
  g : Nat
  h : Nat
  first : Nat
  next : Nat
  S : List (List Nat)
  G : List (List Nat)
  A : Option Addr
  c : Nat
  Air : List Ms
def Sd.bs (d : Sd) : List Nat := d.F ++ (d.H ++ blkA d.A)
structure SdOk (w : World) (base t : Nat) (d : Sd) : Prop where
  en : EndS w base d.F d.g d.first d.next (d.S.drop d.first) d.G
  ha : HalfS w base d.H d.h d.first d.next d.S d.G
  air : w.ownsRow base 30 1 (.slice d.A d.Air.length d.c) d.Air.length (msV d.Air)
  ok : ∀ m ∈ d.Air, MsOk w m ∧ 17 ≤ m.n ∧ m.n ≤ 8033
  fle : d.first ≤ d.S.length
  sle : d.S.length ≤ t
  nle : d.next ≤ 8 * t
  gle : d.G.length ≤ 8 * t
  ale : d.Air.length ≤ t
  msg : ∀ m ∈ d.S, m.length ≤ 1000 ∧ ∀ b ∈ m, b < 256
  dFH : ∀ b ∈ d.F, b ∉ d.H
  dA : ∀ b ∈ blkA d.A, b ∉ d.F ∧ b ∉ d.H
section
variable {w w' : World} {base t t' : Nat} {d : Sd} {E : List Nat}
theorem SdOk.lt (h : SdOk w base t d) : ∀ b ∈ d.bs, base ≤ b ∧ b < w.heap.size := by
  intro b hb
  rcases List.mem_append.1 hb with hb | hb
  · exact h.en.lt b hb
  rcases List.mem_append.1 hb with hb | hb
  · exact h.ha.lt b hb
  · obtain ⟨h1, cs, h2⟩ := own_blk h.air b (blkA_mem.1 hb)
    exact ⟨h1, h2.lt⟩
theorem SdOk.fq (h : SdOk w base t d) (hq : Fq E w w') (hE : ∀ k ∈ d.bs, k ∉ E) : SdOk w' base t d := by
  have hF : ∀ k ∈ d.F, k ∉ E := fun k hk => hE k (by simp [Sd.bs, hk])
  have hH : ∀ k ∈ d.H, k ∉ E := fun k hk => hE k (by simp [Sd.bs, hk])
  have hA : ∀ k ∈ blkA d.A, k ∉ E := fun k hk => hE k (by simp [Sd.bs, hk])
  refine ⟨h.en.fq hq hF, h.ha.fq hq hH, own_keepB h.air fun k hk => ?_, fun m hm => ⟨(h.ok m hm).1.byt hq.byt, (h.ok m hm).2⟩, h.fle, h.sle, h.nle, h.gle, h.ale, h.msg, h.dFH, h.dA⟩
  have hk' := own_blk_of hk
  obtain ⟨_, cs, hb⟩ := own_blk h.air k hk'
  exact hq.low k hb.lt (hA k (blkA_mem.2 hk'))
theorem SdOk.more (h : SdOk w base t d) (ht : t ≤ t') : SdOk w base t' d :=
  ⟨h.en, h.ha, h.air, h.ok, h.fle, by have := h.sle; omega, by have := h.nle; omega, by have := h.gle; omega, by have := h.ale; omega, h.msg, h.dFH, h.dA⟩
end

structure LsI (w0 w : World) (be bm ba t : Nat) (D : Nat → Sd) : Prop where
  bke : Bk w be 70 #[.pointer (some ⟨(D 0).g, 0, none⟩), .pointer (some ⟨(D 1).g, 0, none⟩)]
  bkm : Bk w bm 73 #[.pointer (some ⟨(D 0).h, 0, none⟩), .pointer (some ⟨(D 1).h, 0, none⟩)]
  bka : Bk w ba 78 #[.slice (D 0).A (D 0).Air.length (D 0).c, .slice (D 1).A (D 1).Air.length (D 1).c]
  sd : ∀ k, k < 2 → SdOk w w0.heap.size t (D k)
  dX : ∀ b ∈ (D 0).bs, b ∉ (D 1).bs
  dB : ∀ k, k < 2 → ∀ b ∈ (D k).bs, b ≠ be ∧ b ≠ bm ∧ b ≠ ba
  lo : w0.heap.size ≤ be ∧ w0.heap.size ≤ bm ∧ w0.heap.size ≤ ba
  bel : Below w0.heap.size w0 w

def updS (D : Nat → Sd) (k : Nat) (d : Sd) : Nat → Sd := fun i => if i = k then d else D i
theorem updS_same (D : Nat → Sd) (k : Nat) (d : Sd) : updS D k d k = d := if_pos rfl
theorem updS_ne (D : Nat → Sd) (d : Sd) {i k : Nat} (h : i ≠ k) : updS D k d i = D i := if_neg h

section
variable {w0 w w' : World} {be bm ba t t' : Nat} {D : Nat → Sd} {E : List Nat}
theorem LsI.dX' (h : LsI w0 w be bm ba t D) {k i : Nat} (hk : k < 2) (hi : i < 2) (hn : k ≠ i) : ∀ b ∈ (D k).bs, b ∉ (D i).bs := by
  intro b h1 h2
  by_cases k0 : k = 0
  · subst k0
    obtain rfl : i = 1 := by omega
    exact h.dX b h1 h2
  · obtain rfl : k = 1 := by omega
    obtain rfl : i = 0 := by omega
    exact h.dX b h2 h1
theorem LsI.below (h : LsI w0 w be bm ba t D) (hb : Below w.heap.size w w') : LsI w0 w' be bm ba t D :=
  ⟨h.bke.below hb h.bke.lt, h.bkm.below hb h.bkm.lt, h.bka.below hb h.bka.lt, fun k hk => (h.sd k hk).fq (E := []) (Fq.of_below hb) (by simp), h.dX, h.dB, h.lo, h.bel.trans (hb.mono h.bel.size)⟩
theorem LsI.fq0 (h : LsI w0 w be bm ba t D) (hb : Fq [] w w') : LsI w0 w' be bm ba t D :=
  ⟨(hb.low _ h.bke.lt (by simp)).trans h.bke, (hb.low _ h.bkm.lt (by simp)).trans h.bkm, (hb.low _ h.bka.lt (by simp)).trans h.bka, fun k hk => (h.sd k hk).fq hb (by simp), h.dX, h.dB, h.lo, h.bel.trans (hb.below (by simp) h.bel.size)⟩
theorem LsI.more (h : LsI w0 w be bm ba t D) (ht : t ≤ t') : LsI w0 w be bm ba t' D := ⟨h.bke, h.bkm, h.bka, fun k hk => (h.sd k hk).more ht, h.dX, h.dB, h.lo, h.bel⟩

/-- One side has changed. -/
theorem LsI.side (h : LsI w0 w be bm ba t D) {k : Nat} (hk : k < 2) (d : Sd) (hq : Fq E w w') (hE : ∀ b ∈ E, b ∈ (D k).F ∨ b ∈ (D k).H)
    (hd : SdOk w' w0.heap.size t' d) (ht : t ≤ t') (hg : d.g = (D k).g) (hh : d.h = (D k).h) (hA : d.A = (D k).A) (hc : d.c = (D k).c) (hAir : d.Air = (D k).Air)
    (hF : SubF (D k).F d.F w.heap.size) (hH : SubF (D k).H d.H w.heap.size) : LsI w0 w' be bm ba t' (updS D k d) := by
  have hEb : ∀ b ∈ E, b ∈ (D k).bs := fun b hb => by
    rcases hE b hb with h1 | h1 <;> simp [Sd.bs, h1]
  have hb : ∀ b ∈ d.bs, b ∈ (D k).bs ∨ w.heap.size ≤ b := by
    intro b hb
    rcases List.mem_append.1 hb with hb | hb
    · rcases hF b hb with h1 | h1
      · left; simp [Sd.bs, h1]
      · exact .inr h1
    rcases List.mem_append.1 hb with hb | hb
    · rcases hH b hb with h1 | h1
      · left; simp [Sd.bs, h1]
      · exact .inr h1
    · left; rw [hA] at hb; simp [Sd.bs, hb]
  have hnE : ∀ x, (∀ b ∈ (D k).bs, b ≠ x) → x ∉ E := fun x hx hx2 => hx x (hEb x hx2) rfl
  have e0 : ∀ f : Sd → Value, (f d = f (D k)) → f (updS D k d 0) = f (D 0) ∧ f (updS D k d 1) = f (D 1) := by
    intro f hf
    refine ⟨?_, ?_⟩ <;> (unfold updS; split)
    · rename_i h1; rw [hf, ← h1]
    · rfl
    · rename_i h1; rw [hf, ← h1]
    · rfl
  have eg := e0 (fun d => .pointer (some ⟨d.g, 0, none⟩)) (by simp only [hg])
  have eh := e0 (fun d => .pointer (some ⟨d.h, 0, none⟩)) (by simp only [hh])
  have ea := e0 (fun d => .slice d.A d.Air.length d.c) (by simp only [hA, hc, hAir])
  have ho : ∀ i, i < 2 → i ≠ k → SdOk w' w0.heap.size t (D i) := fun i hi hik => (h.sd i hi).fq hq fun b hb hb2 => h.dX' hi hk hik b hb (hEb b hb2)
  have hs : ∀ i, i < 2 → SdOk w' w0.heap.size t' (updS D k d i) := by
    intro i hi
    by_cases hik : i = k
    · rw [hik, updS_same]; exact hd
    · rw [updS_ne _ _ hik]; exact (ho i hi hik).more ht
  refine ⟨?_, ?_, ?_, hs, ?_, ?_, h.lo, h.bel.trans (hq.below (fun b hb => ((h.sd k hk).lt b (hEb b hb)).1) h.bel.size)⟩
  · rw [eg.1, eg.2]; exact (hq.low _ h.bke.lt (hnE _ fun b hb => (h.dB k hk b hb).1)).trans h.bke
  · rw [eh.1, eh.2]; exact (hq.low _ h.bkm.lt (hnE _ fun b hb => (h.dB k hk b hb).2.1)).trans h.bkm
  · rw [ea.1, ea.2]; exact (hq.low _ h.bka.lt (hnE _ fun b hb => (h.dB k hk b hb).2.2)).trans h.bka
  · intro b h1 h2
    by_cases k0 : k = 0
    · subst k0
      rw [updS_same] at h1
      rw [updS_ne _ _ (by omega)] at h2
      rcases hb b h1 with h3 | h3
      · exact h.dX b h3 h2
      · have := ((h.sd 1 (by omega)).lt b h2).2; omega
    · have k1 : k = 1 := by omega
      subst k1
      rw [updS_same] at h2
      rw [updS_ne _ _ (by omega)] at h1
      rcases hb b h2 with h3 | h3
      · exact h.dX b h1 h3
      · have := ((h.sd 0 (by omega)).lt b h1).2; omega
  · intro i hi b h1
    by_cases hik : i = k
    · rw [hik, updS_same] at h1
      rcases hb b h1 with h3 | h3
      · exact h.dB k hk b h3
      · have h4 := h.bke.lt; have h5 := h.bkm.lt; have h6 := h.bka.lt
        exact ⟨by omega, by omega, by omega⟩
    · rw [updS_ne _ _ hik] at h1; exact h.dB i hi b h1

/-- A packet more is in the air for a side. -/
theorem LsI.fly {w3 : World} {g3 c3 q k : Nat} {m : Ms} (h : LsI w0 w be bm ba t D) (hk : k < 2) (hm : MsOk w m) (hm1 : 17 ≤ m.n) (hm2 : m.n ≤ 8033) (hq : q = (D k).Air.length) (htt : t + 1 ≤ t')
    (hown3 : w3.ownsRow w0.heap.size 30 1 (.slice (some ⟨g3, 0, none⟩) (q + 1) c3) (q + 1) (msV (D k).Air ++ [m.v]))
    (hgr : (w.alloc (.cells #[m.v] 30)).grownBy w3 (Value.slice (D k).A q (D k).c).ownBlock) (hat : (Value.slice (D k).A q (D k).c).ownBlock = some g3 ∨ g3 = (w.alloc (.cells #[m.v] 30)).heap.size) :
    LsI w0 (w3.setCell ⟨ba, k, none⟩ (.slice (some ⟨g3, 0, none⟩) (q + 1) c3)) be bm ba t' (updS D k { D k with A := some ⟨g3, 0, none⟩, c := c3, Air := (D k).Air ++ [m] }) := by
  subst hq
  rw [own_blk_to] at hgr hat
  have hS := h.sd k hk
  have hbG : ∀ i, (D k).A.map (·.block) = some i → w0.heap.size ≤ i ∧ ∃ cs, Bk w i 30 cs := fun i hi => own_blk hS.air i hi
  have hq3 : Fq (ba :: blkA (D k).A) w w3 := (Fq.refl.alloc (.cells #[m.v] 30)).grown hgr (fun i hi => by
    obtain ⟨_, cs, hbk⟩ := hbG i hi
    exact ⟨.inl (by simp [blkA_mem, hi]), 30, cs, hbk.alloc _, by decide⟩)
  have hba : ∀ i, (D k).A.map (·.block) = some i → i ≠ ba := fun i hi => (h.dB k hk i (by simp [Sd.bs, blkA_mem, hi])).2.2
  have hk3 : Bk w3 ba 78 #[.slice (D 0).A (D 0).Air.length (D 0).c, .slice (D 1).A (D 1).Air.length (D 1).c] := (h.bka.alloc _).grown hgr (fun e => hba ba e.symm rfl)
  have hq5 := hq3.setG (.inl (by simp)) hk3 (by decide) k (.slice (some ⟨g3, 0, none⟩) ((D k).Air.length + 1) c3)
  have hg3 : g3 ∈ (D k).bs ∨ w.heap.size ≤ g3 := by
    rcases hat with h1 | h1
    · left; simp [Sd.bs, blkA_mem, h1]
    · right; simp at h1; omega
  have hng : g3 ≠ ba := by
    rcases hat with h1 | h1
    · exact hba g3 h1
    · have := h.bka.lt; simp at h1; omega
  have hsz3 := hgr.size
  have ht : t ≤ t' := by omega
  have hoth : ∀ i, i < 2 → i ≠ k → ∀ b ∈ (D i).bs, b ∉ ba :: blkA (D k).A := fun i hi hik b hb hb2 => by
    rcases List.mem_cons.1 hb2 with h1 | h1
    · exact (h.dB i hi b hb).2.2 h1
    · exact h.dX' hi hk hik b hb (by simp [Sd.bs, h1])
  have hFk : ∀ b ∈ (D k).F, b ∉ ba :: blkA (D k).A := fun b hb hb2 => by
    rcases List.mem_cons.1 hb2 with h1 | h1
    · exact (h.dB k hk b (by simp [Sd.bs, hb])).2.2 h1
    · exact (hS.dA b h1).1 hb
  have hHk : ∀ b ∈ (D k).H, b ∉ ba :: blkA (D k).A := fun b hb hb2 => by
    rcases List.mem_cons.1 hb2 with h1 | h1
    · exact (h.dB k hk b (by simp [Sd.bs, hb])).2.2 h1
    · exact (hS.dA b h1).2 hb
  have hg3n : ∀ b, b = g3 → b ∉ (D k).F ∧ b ∉ (D k).H := by
    rintro b rfl
    rcases hat with h1 | h1
    · exact hS.dA b (blkA_mem.2 h1)
    · simp at h1
      exact ⟨fun h2 => by have := (hS.en.lt b h2).2; omega, fun h2 => by have := (hS.ha.lt b h2).2; omega⟩
  have hlow : ∀ b ∈ ba :: blkA (D k).A, w0.heap.size ≤ b := fun b hb => by
    rcases List.mem_cons.1 hb with h1 | h1
    · rw [h1]; exact h.lo.2.2
    · exact (hbG b (blkA_mem.1 h1)).1
  have hsdk : SdOk (w3.setCell ⟨ba, k, none⟩ (.slice (some ⟨g3, 0, none⟩) ((D k).Air.length + 1) c3)) w0.heap.size t' { D k with A := some ⟨g3, 0, none⟩, c := c3, Air := (D k).Air ++ [m] } := by
    refine ⟨hS.en.fq hq5 hFk, hS.ha.fq hq5 hHk, ?_, ?_, hS.fle, by have := hS.sle; show (D k).S.length ≤ t'; omega, by have := hS.nle; show (D k).next ≤ 8 * t'; omega, by have := hS.gle; show (D k).G.length ≤ 8 * t'; omega, ?_, hS.msg, hS.dFH, ?_⟩
    · show World.ownsRow _ _ _ _ (.slice (some ⟨g3, 0, none⟩) ((D k).Air ++ [m]).length c3) ((D k).Air ++ [m]).length (msV ((D k).Air ++ [m]))
      rw [List.length_append, msV_append]
      refine own_keepB hown3 fun i hi => ?_
      have hi' : i = g3 := by simp [Value.ownBlock] at hi; exact hi.symm
      have hne : i ≠ ba := by rw [hi']; exact hng
      exact Below.heap_setCell _ _ _ _ hne
    · intro x hx
      rcases List.mem_append.1 hx with hx | hx
      · exact ⟨(hS.ok x hx).1.byt hq5.byt, (hS.ok x hx).2⟩
      · obtain rfl := List.mem_singleton.1 hx
        exact ⟨hm.byt hq5.byt, hm1, hm2⟩
    · show ((D k).Air ++ [m]).length ≤ t'
      rw [List.length_append]; have := hS.ale; simp; omega
    · intro b hb
      exact hg3n b (by simpa [blkA] using hb)
  have hbs : ∀ b ∈ ({ D k with A := some ⟨g3, 0, none⟩, c := c3, Air := (D k).Air ++ [m] } : Sd).bs, b ∈ (D k).bs ∨ w.heap.size ≤ b := by
    intro b hb
    rcases List.mem_append.1 hb with hb | hb
    · left; simp [Sd.bs, show b ∈ (D k).F from hb]
    rcases List.mem_append.1 hb with hb | hb
    · left; simp [Sd.bs, show b ∈ (D k).H from hb]
    · have hb' : b = g3 := by simpa [blkA] using hb
      rw [hb']; exact hg3
  have hs : ∀ i, i < 2 → SdOk (w3.setCell ⟨ba, k, none⟩ (.slice (some ⟨g3, 0, none⟩) ((D k).Air.length + 1) c3)) w0.heap.size t' (updS D k { D k with A := some ⟨g3, 0, none⟩, c := c3, Air := (D k).Air ++ [m] } i) := by
    intro i hi
    by_cases hik : i = k
    · rw [hik, updS_same]; exact hsdk
    · rw [updS_ne _ _ hik]; exact ((h.sd i hi).fq hq5 (hoth i hi hik)).more ht
  have hne2 : ∀ b, w0.heap.size ≤ b → (∀ x ∈ (D k).bs, x ≠ b) → b ≠ ba → b ∉ ba :: blkA (D k).A := fun b _ hb2 hb3 hb => by
    rcases List.mem_cons.1 hb with h1 | h1
    · exact hb3 h1
    · exact hb2 b (by simp [Sd.bs, h1]) rfl
  refine ⟨?_, ?_, ?_, hs, ?_, ?_, h.lo, h.bel.trans (hq5.below hlow h.bel.size)⟩
  · have e : (updS D k { D k with A := some ⟨g3, 0, none⟩, c := c3, Air := (D k).Air ++ [m] } 0).g = (D 0).g ∧ (updS D k { D k with A := some ⟨g3, 0, none⟩, c := c3, Air := (D k).Air ++ [m] } 1).g = (D 1).g := by
      refine ⟨?_, ?_⟩ <;> (unfold updS; split <;> first | rfl | (rename_i h1; rw [h1]))
    rw [e.1, e.2]
    exact (hq5.low _ h.bke.lt (hne2 be h.lo.1 (fun b hb => (h.dB k hk b hb).1) (fun e => Bk.ne_ h.bke h.bka (by decide) e))).trans h.bke
  · have e : (updS D k { D k with A := some ⟨g3, 0, none⟩, c := c3, Air := (D k).Air ++ [m] } 0).h = (D 0).h ∧ (updS D k { D k with A := some ⟨g3, 0, none⟩, c := c3, Air := (D k).Air ++ [m] } 1).h = (D 1).h := by
      refine ⟨?_, ?_⟩ <;> (unfold updS; split <;> first | rfl | (rename_i h1; rw [h1]))
    rw [e.1, e.2]
    exact (hq5.low _ h.bkm.lt (hne2 bm h.lo.2.1 (fun b hb => (h.dB k hk b hb).2.1) (fun e => Bk.ne_ h.bkm h.bka (by decide) e))).trans h.bkm
  · have hx := hk3.set_ k (.slice (some ⟨g3, 0, none⟩) ((D k).Air.length + 1) c3)
    by_cases k0 : k = 0
    · subst k0
      rw [updS_same, updS_ne _ _ (by omega)]
      show Bk _ ba 78 #[.slice (some ⟨g3, 0, none⟩) ((D 0).Air ++ [m]).length c3, _]
      rw [List.length_append]; exact hx
    · have k1 : k = 1 := by omega
      subst k1
      rw [updS_same, updS_ne _ _ (by omega)]
      show Bk _ ba 78 #[_, .slice (some ⟨g3, 0, none⟩) ((D 1).Air ++ [m]).length c3]
      rw [List.length_append]; exact hx
  · intro b h1 h2
    by_cases k0 : k = 0
    · subst k0
      rw [updS_same] at h1
      rw [updS_ne _ _ (by omega)] at h2
      rcases hbs b h1 with h3 | h3
      · exact h.dX b h3 h2
      · have := ((h.sd 1 (by omega)).lt b h2).2; omega
    · have k1 : k = 1 := by omega
      subst k1
      rw [updS_same] at h2
      rw [updS_ne _ _ (by omega)] at h1
      rcases hbs b h2 with h3 | h3
      · exact h.dX b h1 h3
      · have := ((h.sd 0 (by omega)).lt b h1).2; omega
  · intro i hi b h1
    by_cases hik : i = k
    · rw [hik, updS_same] at h1
      rcases hbs b h1 with h3 | h3
      · exact h.dB k hk b h3
      · have h4 := h.bke.lt; have h5 := h.bkm.lt; have h6 := h.bka.lt
        exact ⟨by omega, by omega, by omega⟩
    · rw [updS_ne _ _ hik] at h1; exact h.dB i hi b h1
end
end Go.Proofs.Ytlgcdcjfobfoiaa
