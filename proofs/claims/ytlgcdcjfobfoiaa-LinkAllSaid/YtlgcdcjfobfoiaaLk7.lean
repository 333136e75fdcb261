/-
  The contract of an end's Got; the reference's Half in memory ('HalfS'); slices.EqualFunc at equal lists of byte slices; the law's got. Conditions: ends and halves in memory, apart from each other.
-/
import Derived.Test.YtlgcdcjfobfoiaaLk6
namespace Go.Proofs.Ytlgcdcjfobfoiaa
open Go.RowKit
set_option maxRecDepth 100000

theorem Tr.below30 {w w' : World} {size n : Nat} {e : TypeId} {A : Option Addr} {xs : List Value} (h : Tr w e size A n xs) (hk : ∀ g cs, A.map (·.block) = some g → Bk w g e cs → Bk w' g e cs) : Tr w' e size A n xs :=
  ⟨h.1, fun hn => by obtain ⟨b, o, cs, rfl, hb, hc⟩ := h.2 hn; exact ⟨b, o, cs, rfl, hk _ _ rfl hb, hc⟩⟩

def GotP (w : World) (base : Nat) (F : List Nat) (g first next : Nat) (W G : List (List Nat)) (e : Ending) (w' : World) : Prop :=
  ∃ (Gs : List Ms) (A : Option Addr) (c : Nat) (F' : List Nat), e = .returned (.slice A Gs.length c) ∧ Gs.map Ms.dat = G ∧ Tr w' 30 1 A Gs.length (msV Gs) ∧ (∀ m ∈ Gs, MsOk w' m) ∧ (∀ k, A.map (·.block) = some k → k ∈ F) ∧ EndS w' base F' g first next W [] ∧ (∀ k ∈ F', k ∈ F) ∧ Fq F w w'

set_option maxHeartbeats 800000 in
theorem linkGot_any {base : Nat} {F : List Nat} {g first next : Nat} {W G : List (List Nat)} (w : World) (h : EndS w base F g first next W G) :
    Calls Try.prog 52 #[.pointer (some ⟨g, 0, none⟩)] w (GotP w base F g first next W G) := by
  obtain ⟨Ws, Gs, WA, GA, wc, gc, h, rfl, rfl⟩ := h
  have c3 : w.cell? ⟨g, 3, none⟩ = some (.slice GA Gs.length gc) := h.bk.cell 3
  have f3 := h.bk.frozen 3
  have HST := Lib.hid h
  clear h
  obtain ⟨q, hq⟩ : ∃ q, q = Gs.length := ⟨_, rfl⟩
  have HQ := Lib.hid hq
  rw [← hq] at c3
  clear hq
  go_enter Try.func52, Try.ntmps52
  go_wp2_with fail
  go_ret
  have h := HST.out
  have hq := HQ.out
  subst hq
  have hgF : g ∈ F := by rw [h.fp]; simp
  have hfq : Fq F w (w.setCell ⟨g, 3, none⟩ (.slice none 0 0)) := Fq.refl.setG (.inl hgF) h.bk (by decide) 3 _
  refine ⟨Gs, GA, gc, g :: (blkA WA ++ blkA none), rfl, rfl, ?_, fun m hm => (h.okG m hm).byt hfq.byt, fun k hk => by rw [h.fp]; simp [blkA_mem, hk], ⟨Ws, [], WA, none, wc, 0, ⟨?_, ?_, World.ownsRow_nil _ _ _ _, rfl, ?_, ?_, fun m hm => (h.okW m hm).byt hfq.byt, by simp⟩, rfl, rfl⟩, ?_, hfq⟩
  · exact (Tr.of_own h.got).below30 fun k cs hk hb => hb.far (fun e => h.ne_got (by rw [hk, show k = g from e])) _
  · exact h.bk.set_ 3 _
  · exact h.wait.keep fun k cs hk hb => hb.far (fun e => h.ne_wait (by rw [hk, show k = g from e])) _
  · have h1 := h.nodup
    rw [h.fp] at h1
    have h2 := List.nodup_cons.1 h1
    simp only [blkA, Option.map_none, Option.toList_none, List.append_nil]
    exact List.nodup_cons.2 ⟨fun hk => h2.1 (List.mem_append_left _ hk), (List.nodup_append.1 h2.2).1⟩
  · intro k hk
    have hk2 : k ∈ F := by rw [h.fp]; simp [blkA] at hk ⊢; rcases hk with hk | hk <;> simp [hk]
    exact ⟨(h.low k hk2).1, by simpa [World.setCell] using (h.low k hk2).2⟩
  · intro k hk
    rw [h.fp]; simp [blkA] at hk ⊢; rcases hk with hk | hk <;> simp [hk]

/-! ### the reference's Half -/
structure HalfSt (w : World) (base : Nat) (F : List Nat) (g ack came : Nat) (S N : List Ms) (SA NA : Option Addr) (sc nc : Nat) : Prop where
  bk : Bk w g 76 #[.slice SA S.length sc, .int .i64 ack, .int .i64 came, .slice NA N.length nc]
  sent : w.ownsRow base 30 1 (.slice SA S.length sc) S.length (msV S)
  new : w.ownsRow base 30 1 (.slice NA N.length nc) N.length (msV N)
  fp : F = g :: (blkA SA ++ blkA NA)
  nodup : F.Nodup
  low : ∀ k ∈ F, base ≤ k ∧ k < w.heap.size
  okS : ∀ m ∈ S, MsOk w m
  okN : ∀ m ∈ N, MsOk w m
theorem own_blk_of {A : Option Addr} {n c k : Nat} (hk : (Value.slice A n c).ownBlock = some k) : A.map (·.block) = some k := by
  cases A with
  | none => cases hk
  | some a => simpa [Value.ownBlock] using hk
theorem own_blk_to {A : Option Addr} {n c : Nat} : (Value.slice A n c).ownBlock = A.map (·.block) := by cases A <;> rfl
theorem HalfSt.keep {w w' : World} {base : Nat} {F : List Nat} {g ack came : Nat} {S N : List Ms} {SA NA : Option Addr} {sc nc : Nat} (h : HalfSt w base F g ack came S N SA NA sc nc) (hF : ∀ k ∈ F, w'.heap[k]? = w.heap[k]?) (hs : w.heap.size ≤ w'.heap.size) (hb : ∀ k cs, Bk w k 5 cs → Bk w' k 5 cs) : HalfSt w' base F g ack came S N SA NA sc nc := by
  have hfp := h.fp
  refine ⟨(hF g (by rw [hfp]; simp)).trans h.bk, own_keepB h.sent fun k hk => hF k ?_, own_keepB h.new fun k hk => hF k ?_, hfp, h.nodup, fun k hk => ⟨(h.low k hk).1, Nat.lt_of_lt_of_le (h.low k hk).2 hs⟩, fun m hm => (h.okS m hm).byt hb, fun m hm => (h.okN m hm).byt hb⟩
  · rw [hfp]; simp [blkA_mem, own_blk_of hk]
  · rw [hfp]; simp [blkA_mem, own_blk_of hk]
def HalfS (w : World) (base : Nat) (F : List Nat) (g ack came : Nat) (S N : List (List Nat)) : Prop :=
  ∃ (Ss Ns : List Ms) (SA NA : Option Addr) (sc nc : Nat), HalfSt w base F g ack came Ss Ns SA NA sc nc ∧ Ss.map Ms.dat = S ∧ Ns.map Ms.dat = N
theorem HalfS.keep {w w' : World} {base : Nat} {F : List Nat} {g ack came : Nat} {S N : List (List Nat)} (h : HalfS w base F g ack came S N) (hF : ∀ k ∈ F, w'.heap[k]? = w.heap[k]?) (hs : w.heap.size ≤ w'.heap.size) (hb : ∀ k cs, Bk w k 5 cs → Bk w' k 5 cs) : HalfS w' base F g ack came S N := by
  obtain ⟨Ss, Ns, SA, NA, sc, nc, h, h1, h2⟩ := h
  exact ⟨Ss, Ns, SA, NA, sc, nc, h.keep hF hs hb, h1, h2⟩
theorem HalfS.lt {w : World} {base : Nat} {F : List Nat} {g ack came : Nat} {S N : List (List Nat)} (h : HalfS w base F g ack came S N) : ∀ k ∈ F, base ≤ k ∧ k < w.heap.size := by
  obtain ⟨_, _, _, _, _, _, h, _⟩ := h; exact h.low
theorem EndS.lt {w : World} {base : Nat} {F : List Nat} {g first next : Nat} {W G : List (List Nat)} (h : EndS w base F g first next W G) : ∀ k ∈ F, base ≤ k ∧ k < w.heap.size := by
  obtain ⟨_, _, _, _, _, _, h, _⟩ := h; exact h.low
theorem HalfS.below {w w' : World} {base : Nat} {F : List Nat} {g ack came : Nat} {S N : List (List Nat)} (h : HalfS w base F g ack came S N) (hb : Below w.heap.size w w') : HalfS w' base F g ack came S N :=
  h.keep (fun k hk => hb.block k (h.lt k hk).2) hb.size fun k cs hk => (hb.block k hk.lt).trans hk
theorem HalfS.new (w : World) (base : Nat) (hb : base ≤ w.heap.size) : HalfS (w.alloc (.cells #[.slice none 0 0, .int .i64 0, .int .i64 0, .slice none 0 0] 76)) base [w.heap.size] w.heap.size 0 0 [] [] :=
  ⟨[], [], none, none, 0, 0, ⟨Bk.new w _ _, World.ownsRow_nil _ _ _ _, World.ownsRow_nil _ _ _ _, rfl, by simp, by simp; omega, by simp, by simp⟩, rfl, rfl⟩
theorem HalfS.fq {w w' : World} {base : Nat} {F E : List Nat} {g ack came : Nat} {S N : List (List Nat)} (h : HalfS w base F g ack came S N) (hq : Fq E w w') (hd : ∀ k ∈ F, k ∉ E) : HalfS w' base F g ack came S N :=
  h.keep (fun k hk => hq.low k (h.lt k hk).2 (hd k hk)) hq.size hq.byt
theorem EndS.fq {w w' : World} {base : Nat} {F E : List Nat} {g first next : Nat} {W G : List (List Nat)} (h : EndS w base F g first next W G) (hq : Fq E w w') (hd : ∀ k ∈ F, k ∉ E) : EndS w' base F g first next W G :=
  h.keep (fun k hk => hq.low k (h.lt k hk).2 (hd k hk)) hq.size hq.byt

set_option maxHeartbeats 1600000 in
theorem eqMs_any (A A' : Option Addr) (n c n' c' B : Nat) (L L' : List Ms) (w : World) (hr : Rd w B 1 A n (msV L)) (hr' : Rd w B 1 A' n' (msV L')) (hn : n = L.length) (hn' : n' = L'.length) (hn1 : n ≤ 1000000) (hk : L.map Ms.dat = L'.map Ms.dat) (hd : ∀ m ∈ L, MsOk w m) (hd' : ∀ m ∈ L', MsOk w m) :
    Calls Try.prog 81 #[.slice A n c, .slice A' n' c', .func (.func 21) #[] #[]] w fun e w' => e = .returned (.bool true) ∧ w = w' := by
  have hnn : n = n' := by have h1 := congrArg List.length hk; simp only [List.length_map] at h1; omega
  subst hnn
  have HR := Lib.hid hr
  have HR' := Lib.hid hr'
  have HN := Lib.hid hn
  have HN' := Lib.hid hn'
  have HK := Lib.hid hk
  have HD := Lib.hid hd
  have HD' := Lib.hid hd'
  clear hr hr' hn hn' hk hd hd'
  go_enter Try.func81, Try.ntmps81
  go_wp2_with fail
  go_loopw [7, 8, 9, 17] (fun _ _ _ v wr => ∃ k : Nat, k ≤ n ∧ v = .int .i64 k ∧ wr = w) (fun _ _ _ v _ => n - (intOf v).toNat)
  case atStart => exact ⟨0, Nat.zero_le _, rfl, rfl⟩
  case round =>
    obtain ⟨k, hk, rfl, rfl⟩ := hrel
    by_cases hlt : k < n
    · obtain ⟨f, hf⟩ : ∃ f, L[k]? = some f := ⟨_, List.getElem?_eq_getElem (by have := HN.out; omega)⟩
      obtain ⟨f', hf'⟩ : ∃ f', L'[k]? = some f' := ⟨_, List.getElem?_eq_getElem (by have := HN'.out; omega)⟩
      have hkey : f.dat = f'.dat := by
        have h1 : (L.map Ms.dat)[k]? = some f.dat := by rw [List.getElem?_map, hf]; rfl
        have h2 : (L'.map Ms.dat)[k]? = some f'.dat := by rw [List.getElem?_map, hf']; rfl
        rw [HK.out, h2] at h1
        injection h1 with h1
        exact h1.symm
      obtain ⟨b, o, rfl, _, q0⟩ := HR.out.at1 hlt (msV_get hf)
      obtain ⟨b', o', rfl, _, r0⟩ := HR'.out.at1 hlt (msV_get hf')
      have hok := HD.out f (List.mem_of_getElem? hf)
      have hok' := HD'.out f' (List.mem_of_getElem? hf')
      have hc := bytesEqual_any f.A f'.A f.n f.c f'.n f'.c wr.heap.size f.dat f'.dat wr hok.lt hok'.lt hok.tr.rd hok'.tr.rd
      rw [show decide (f.dat = f'.dat) = true from decide_eq_true hkey] at hc
      have HC := Lib.hid hc
      have hkn : (k : Int) < n := by omega
      clear hc hf hf' hkey hok hok'
      generalize f.A = fA at *
      generalize f.n = fn at *
      generalize f.c = fc at *
      generalize f'.A = fA' at *
      generalize f'.n = fn' at *
      generalize f'.c = fc' at *
      go_wp2_with fail
      refine HC.out.mono ?_
      rintro e w2 ⟨rfl, rfl⟩
      go_wp2_with fail
      go_roundw
      case rel => exact ⟨k + 1, by omega, by go_num, by first | rfl | trivial⟩
      case measure => simp [intOf]; omega
    · obtain rfl : k = n := by omega
      go_wp2_with fail
      go_ret
      exact ⟨rfl, rfl⟩

/-- What the law's got leaves of both. -/
def GotBoth (w : World) (base : Nat) (F H : List Nat) (g first next h ack came : Nat) (W S : List (List Nat)) (e : Ending) (w' : World) : Prop :=
  ∃ F' H', e = .returned (.bool true) ∧ EndS w' base F' g first next W [] ∧ HalfS w' base H' h ack came S [] ∧ (∀ k ∈ F', k ∈ F) ∧ (∀ k ∈ H', k ∈ H) ∧ Fq (F ++ H) w w' ∧ ∀ j, j < 3 → w'.cell? ⟨h, j, none⟩ = w.cell? ⟨h, j, none⟩

set_option maxHeartbeats 1600000 in
theorem got_both {base : Nat} {F H : List Nat} {g first next h ack came : Nat} {W S G : List (List Nat)} (w : World) (he : EndS w base F g first next W G) (hh : HalfS w base H h ack came S G) (hd : ∀ k ∈ F, k ∉ H) (hG : G.length ≤ 1000000) :
    Calls Try.prog 51 #[.pointer (some ⟨g, 0, none⟩), .pointer (some ⟨h, 0, none⟩)] w (GotBoth w base F H g first next h ack came W S) := by
  have HG := Lib.hid (linkGot_any w he)
  have HLT := Lib.hid he.lt
  have HH := Lib.hid hh
  have HD := Lib.hid hd
  clear he hh hd
  go_enter Try.func51, Try.ntmps51
  go_wp2_with fail
  refine HG.out.mono ?_
  rintro e w1 ⟨Gs, A, c, F', rfl, hGs, htr, hok, hA, hE, hsub, hfq⟩
  have hh1 := HH.out.fq hfq (fun k hk hk2 => HD.out k hk2 hk)
  obtain ⟨Ss, Ns, SA, NA, sc, nc, h1, hS, hN⟩ := hh1
  have c3 : w1.cell? ⟨h, 3, none⟩ = some (.slice NA Ns.length nc) := h1.bk.cell 3
  have f3 := h1.bk.frozen 3
  have hlen : Gs.length = G.length := by rw [← hGs, List.length_map]
  have heq := eqMs_any A NA Gs.length c Ns.length nc w1.heap.size Gs Ns w1 htr.rd (Rd.of_own h1.new) rfl rfl (by omega) (by rw [hGs, hN]) hok h1.okN
  have HEQ := Lib.hid heq
  have H1 := Lib.hid h1
  have HS := Lib.hid hS
  have HE := Lib.hid hE
  have HFQ := Lib.hid hfq
  have HSUB := Lib.hid hsub
  obtain ⟨p, hp⟩ : ∃ p, p = Ns.length := ⟨_, rfl⟩
  have HP := Lib.hid hp
  rw [← hp] at c3 HEQ
  generalize Gs.length = q at *
  clear heq h1 hS hN hE hfq hsub hp htr hok hA hlen hGs
  go_wp2_with fail
  refine HEQ.out.mono ?_
  rintro e w2 ⟨rfl, rfl⟩
  go_wp2_with fail
  go_ret
  have h1 := H1.out
  have hp := HP.out
  subst hp
  have hfq := HFQ.out
  have hhH : h ∈ H := by rw [h1.fp]; simp
  have hfq2 : Fq H w1 (w1.setCell ⟨h, 3, none⟩ (.slice none 0 0)) := Fq.refl.setG (.inl hhH) h1.bk (by decide) 3 _
  have hdF : ∀ k ∈ F', k ∉ H := fun k hk hk2 => HD.out k (HSUB.out k hk) hk2
  have hHl := (HH.out.lt h hhH).2
  have hw0 : Bk w h 76 #[.slice SA Ss.length sc, .int .i64 ack, .int .i64 came, .slice NA Ns.length nc] := (hfq.low h hHl (fun hk => HD.out h hk hhH)).symm.trans h1.bk
  refine ⟨F', h :: (blkA SA ++ blkA none), rfl, HE.out.fq hfq2 hdF, ⟨Ss, [], SA, none, sc, 0, ⟨h1.bk.set_ 3 _, ?_, World.ownsRow_nil _ _ _ _, rfl, ?_, ?_, fun m hm => (h1.okS m hm).byt hfq2.byt, by simp⟩, HS.out, rfl⟩, HSUB.out, ?_, ?_, fun j hj => ?_⟩
  · refine own_keepB h1.sent fun k hk => Below.heap_setCell _ _ _ _ (fun e => ?_)
    have h3 := own_blk_of hk
    have h4 := h1.nodup
    rw [h1.fp] at h4
    have e' : k = h := e
    exact (List.nodup_cons.1 h4).1 (by rw [e'] at h3; simp [blkA_mem, h3])
  · have h2 := h1.nodup
    rw [h1.fp] at h2
    have h3 := List.nodup_cons.1 h2
    simp only [blkA, Option.map_none, Option.toList_none, List.append_nil]
    exact List.nodup_cons.2 ⟨fun hk => h3.1 (List.mem_append_left _ hk), (List.nodup_append.1 h3.2).1⟩
  · intro k hk
    have hk2 : k ∈ H := by rw [h1.fp]; simp [blkA] at hk ⊢; rcases hk with hk | hk <;> simp [hk]
    exact ⟨(h1.low k hk2).1, by simpa [World.setCell] using (h1.low k hk2).2⟩
  · intro k hk
    rw [h1.fp]; simp [blkA] at hk ⊢; rcases hk with hk | hk <;> simp [hk]
  · refine Fq.trans (G := H) (b := w1) ?_ hfq2 fun k hk => .inl (List.mem_append_right _ hk)
    exact ⟨hfq.os, hfq.tape, hfq.output, hfq.size, fun k h2 h3 => hfq.low k h2 (fun h4 => h3 (List.mem_append_left _ h4)), hfq.byt⟩
  · have a1 := (h1.bk.set_ 3 (.slice none 0 0)).cell j
    have a2 := hw0.cell j
    rw [a1, a2]
    obtain rfl | rfl | rfl : j = 0 ∨ j = 1 ∨ j = 2 := by omega
    all_goals rfl
end Go.Proofs.Ytlgcdcjfobfoiaa
