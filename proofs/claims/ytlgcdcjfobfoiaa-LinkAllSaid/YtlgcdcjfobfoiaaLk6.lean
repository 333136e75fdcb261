/-
  The contracts of an end's Send and Got. Conditions: messages that can be read, fewer than 500 that wait.
-/
import Derived.Test.YtlgcdcjfobfoiaaLk5
import Derived.Test.YtlgcdcjfobfoiaaNt6
namespace Go.Proofs.Ytlgcdcjfobfoiaa
open Go.RowKit
set_option maxRecDepth 100000

section
variable {F F' G : List Nat} {a b c w w' : World} {B : Nat}
theorem Fq.drew (h : Fq F a w) : Fq F a w.drew := ⟨h.os, h.tape, h.output, h.size, h.low, h.byt⟩
theorem Fq.drewN (h : Fq F a w) (n : Nat) : Fq F a (w.drewN n) := ⟨h.os, h.tape, h.output, h.size, h.low, h.byt⟩
theorem Fq.alloc (h : Fq F a w) (o : Obj) : Fq F a (w.alloc o) :=
  ⟨h.os, h.tape, h.output, by have := h.size; simp; omega, fun k h1 h2 => (Below.heap_alloc _ _ _ (Nat.lt_of_lt_of_le h1 h.size)).trans (h.low k h1 h2), fun k cs hk => (h.byt k cs hk).alloc o⟩
theorem Fq.grown {row : Option Nat} (h : Fq F a w) (hg : w.grownBy w' row) (hr : ∀ q, row = some q → (q ∈ F ∨ a.heap.size ≤ q) ∧ ∃ t cs, Bk w q t cs ∧ t ≠ 5) : Fq F a w' :=
  ⟨hg.os.trans h.os, hg.tape.trans h.tape, hg.output.trans h.output, Nat.le_trans h.size hg.size,
   fun k h1 h2 => (hg.block k (Nat.lt_of_lt_of_le h1 h.size) (fun e => by rcases (hr k e.symm).1 with hj | hj; exact h2 hj; omega)).trans (h.low k h1 h2),
   fun k cs hk => (h.byt k cs hk).grown hg (fun e => by obtain ⟨_, t, cs', hb, ht⟩ := hr k e.symm; exact Bk.ne_ (h.byt k cs hk) hb (Ne.symm ht) rfl)⟩
theorem Fq.setG {g : Nat} {t : TypeId} {cs : Array Value} (h : Fq F a w) (hg : g ∈ F ∨ a.heap.size ≤ g) (hb : Bk w g t cs) (ht : t ≠ 5) (i : Nat) (u : Value) : Fq F a (w.setCell ⟨g, i, none⟩ u) :=
  ⟨h.os, h.tape, h.output, by have := h.size; simpa [World.setCell] using this,
   fun k h1 h2 => (Below.heap_setCell _ _ _ _ (by show k ≠ g; rintro rfl; rcases hg with hj | hj; exact h2 hj; omega)).trans (h.low k h1 h2),
   fun k cs' hk => (h.byt k cs' hk).far (fun e => Bk.ne_ (h.byt k cs' hk) hb (Ne.symm ht) (show k = g from e)) u⟩
end

section
variable {P : Program}
/-- Append of one element onto a slice that was cut in front, as one step of a region that draws. -/
theorem step_append_sh {ops : Array Oper} {o : Oper} {a : Act} {w : World} {K : Act → World → Prop} {Q : Exit → Act → World → Prop} {E : Prop} (hgd : o.guard = none) (s x : Operand) (t : TypeId)
    (ho : o.op = .call { callee := .builtin .append, args := #[s, x], argTypes := #[t, t] })
    (base : Nat) (e : TypeId) (i : TypeInfo) (z : Value) (size bytes : Nat) (ht : P.underlying t = some (.slice e)) (hi : P.info? e = some i) (hz : i.zero = some z)
    (hsize : i.size = size) (hby : i.bytes = bytes) (hzs : z.cells.size = size) (hsz : 0 < size)
    (A : Option Addr) (n c : Nat) (xs : List Value) (hs : a.eval s = .slice A n c) (hown : Sh w base e size A n c xs)
    (b c1 : Nat) (t' : TypeId) (cs : Array Value) (hx : a.eval x = .slice (some ⟨b, 0, none⟩) 1 c1) (hr : Bk w b t' cs) (hcs : cs.size = size) (h1 : ∀ u ∈ cs.toList, u.oneCell' = true)
    (n' : Nat) (hn' : n' = n + 1) (h63 : n' ≤ maxLen) (hbytes : n' * bytes ≤ 140737488355328) (hbase : base ≤ w.heap.size)
    (h : ∀ g pre post c' w', base ≤ g → Hid (Bk w' g e (pre ++ ((xs ++ cs.toList) ++ post)).toArray) → n' ≤ c' → c' ≤ maxLen → Hid ((c' - n') * size ≤ post.length) → w.grownBy w' (A.map (·.block)) → (A.map (·.block) = some g ∨ g = w.heap.size) →
      K (a.put o.dst (.slice (some ⟨g, pre.length, none⟩) n' c')) w') :
    if Region.wanted o (yielded ops a.tmps) = true then Oper.wp P o a w K Q else E := by
  have hw : Region.wanted o (yielded ops a.tmps) = true := by simp [Region.wanted, hgd]
  rw [if_pos hw]
  obtain ⟨g, pre, post, c', w', hrun, h2, h3, h4, h5, h6, h7, h8⟩ := run_append_sh (P := P) w base t o.type e i z size bytes ht hi hz hsize hby hzs hsz A n c xs hown b c1 t' cs hr hcs h1 n' hn' h63 hbytes hbase
  unfold Oper.wp execOp
  simp only [ho, resolve, invoke, builtin, Sem.run_bind, Sem.run_pure, Result.andThen_ok, List.map_toArray, List.map_cons, List.map_nil, hs, hx, hrun]
  exact h g pre post c' w' h2 (Lib.hid h3) h4 h5 (Lib.hid h6) h7 h8
end

theorem EndSt.ne_wait {w : World} {base : Nat} {F : List Nat} {g first next : Nat} {W G : List Ms} {WA GA : Option Addr} {wc gc : Nat} (h : EndSt w base F g first next W G WA GA wc gc) : WA.map (·.block) ≠ some g := by
  intro he
  have h1 := h.nodup
  rw [h.fp] at h1
  exact (List.nodup_cons.1 h1).1 (by simp [blkA_mem, he])
theorem EndSt.ne_got {w : World} {base : Nat} {F : List Nat} {g first next : Nat} {W G : List Ms} {WA GA : Option Addr} {wc gc : Nat} (h : EndSt w base F g first next W G WA GA wc gc) : GA.map (·.block) ≠ some g := by
  intro he
  have h1 := h.nodup
  rw [h.fp] at h1
  exact (List.nodup_cons.1 h1).1 (by simp [blkA_mem, he])
theorem EndSt.ne_rows {w : World} {base : Nat} {F : List Nat} {g first next : Nat} {W G : List Ms} {WA GA : Option Addr} {wc gc q : Nat} (h : EndSt w base F g first next W G WA GA wc gc) (h1 : WA.map (·.block) = some q) (h2 : GA.map (·.block) = some q) : False := by
  have h3 := h.nodup
  rw [h.fp] at h3
  have h4 := (List.nodup_append.1 (List.nodup_cons.1 h3).2).2.2
  exact h4 q (blkA_mem.2 h1) q (blkA_mem.2 h2) rfl
theorem EndSt.lt_got {w : World} {base : Nat} {F : List Nat} {g first next : Nat} {W G : List Ms} {WA GA : Option Addr} {wc gc q : Nat} (h : EndSt w base F g first next W G WA GA wc gc) (h2 : GA.map (·.block) = some q) : q < w.heap.size :=
  (h.low q (by rw [h.fp]; simp [blkA_mem, h2])).2

theorem T.info30 : (Try.prog.info? 30).map (fun i => (i.zero, i.size, i.bytes)) = some (some (.slice none 0 0), 1, 24) := by kernel_rfl

theorem send_close {w w2 w3 : World} {base : Nat} {F : List Nat} {g first next : Nat} {Ws Gs : List Ms} {WA GA : Option Addr} {wc gc q mn g3 c3 c2 : Nat} {m : Ms} {A2 : Option Addr} {pre post : List Value}
    (h : EndSt w base F g first next Ws Gs WA GA wc gc) (hq : q = Ws.length) (hm : MsOk w m) (hmn : m.n = mn) (hown2 : w2.ownsRow w.drew.heap.size 5 1 (.slice A2 mn c2) mn (bytesV m.dat)) (hb2 : Below w.drew.heap.size w.drew w2)
    (hbg3 : base ≤ g3) (hbk3 : Bk w3 g3 30 (pre ++ ((msV Ws ++ #[Value.slice A2 mn c2].toList) ++ post)).toArray) (hk3 : Bk w3 g 123 #[.int .i64 first, .slice WA q wc, .int .i64 next, .slice GA Gs.length gc]) (hqc3 : q + 1 ≤ c3) (hc3 : c3 ≤ maxLen) (hpost : (c3 - (q + 1)) * 1 ≤ post.length)
    (hgr3 : (w2.alloc (.cells #[.slice A2 mn c2] 30)).grownBy w3 (WA.map (·.block))) (hat3 : WA.map (·.block) = some g3 ∨ g3 = (w2.alloc (.cells #[.slice A2 mn c2] 30)).heap.size) :
    EndP w base F g first next (Ws.map Ms.dat ++ [m.dat]) (Gs.map Ms.dat) (.int .i64 0) (.returned (.int .i64 0)) (w3.setCell ⟨g, 1, none⟩ (.slice (some ⟨g3, pre.length, none⟩) (q + 1) c3)) := by
  have hb2' : Below w.heap.size w w2 := ⟨hb2.os, hb2.tape, hb2.output, hb2.size, hb2.block⟩
  have hgF : g ∈ F := by rw [h.fp]; simp
  have hcap := own_cap hown2
  have hsz2 := hb2'.size
  have hsz3 := hgr3.size
  have hfq3 : Fq F w w3 := ((Fq.of_below hb2').alloc (.cells #[.slice A2 mn c2] 30)).grown hgr3 (fun k hk => ⟨.inl (by rw [h.fp]; simp [blkA_mem, hk]), by
    obtain ⟨_, cs, hbk⟩ := h.wait.block_lt k hk
    exact ⟨30, cs, (hbk.below hb2' hbk.lt).alloc _, by decide⟩⟩)
  have hfq : Fq F w (w3.setCell ⟨g, 1, none⟩ (.slice (some ⟨g3, pre.length, none⟩) (q + 1) c3)) := hfq3.setG (.inl hgF) hk3 (by decide) 1 _
  have hok : MsOk w2 ⟨A2, mn, c2, m.dat⟩ := ⟨Tr.of_own hown2, by rw [← hmn]; exact hm.len, hcap.1, hcap.2, hm.lt⟩
  have hok4 : MsOk (w3.setCell ⟨g, 1, none⟩ (.slice (some ⟨g3, pre.length, none⟩) (q + 1) c3)) ⟨A2, mn, c2, m.dat⟩ := hok.byt fun k cs hk => (((hk.alloc (.cells #[.slice A2 mn c2] 30)).grown hgr3 (fun e => by
    obtain ⟨_, cs', hbk⟩ := h.wait.block_lt k e.symm
    exact Bk.ne_ hk (hbk.below hb2' hbk.lt) (by decide) rfl))).far (fun e => Bk.ne_ hk (h.bk.below hb2' h.bk.lt) (by decide) (show k = g from e)) _
  have hne : g3 ≠ g := fun e => Bk.ne_ hbk3 hk3 (by decide) e
  have hng : ∀ k, GA.map (·.block) = some k → k ≠ g3 := by
    intro k hk e
    subst e
    rcases hat3 with h1 | h1
    · exact h.ne_rows h1 hk
    · have := h.lt_got hk; simp at h1; omega
  refine ⟨g :: ([g3] ++ blkA GA), rfl, ⟨Ws ++ [⟨A2, mn, c2, m.dat⟩], Gs, some ⟨g3, pre.length, none⟩, GA, c3, gc, ⟨?_, ?_, ?_, rfl, ?_, ?_, ?_, ?_⟩, by simp, rfl⟩, ?_, hfq⟩
  · have := hk3.set_ 1 (.slice (some ⟨g3, pre.length, none⟩) (q + 1) c3)
    rw [List.length_append, ← hq]
    exact this
  · refine ⟨by simp [msV], by rw [List.length_append, ← hq]; exact hqc3, hc3, .inr ⟨g3, pre, post, rfl, hbg3, ?_, ?_⟩⟩
    · rw [msV_append]
      exact hbk3.far (show g3 ≠ g from hne) _
    · rw [List.length_append, ← hq]; exact hpost
  · refine own_keepB h.got fun k hk => ?_
    have hk' : GA.map (·.block) = some k := by cases GA with
      | none => cases hk
      | some a => simpa [Value.ownBlock] using hk
    have hlt := h.lt_got hk'
    have h1 : k ≠ g := fun e => h.ne_got (by rw [hk', e])
    refine (Below.heap_setCell _ _ _ _ h1).trans ((hgr3.block k (by simp; omega) (fun e => h.ne_rows e.symm hk')).trans ((Below.heap_alloc _ _ _ (by omega)).trans (hb2'.block k hlt)))
  · refine List.nodup_cons.2 ⟨?_, List.nodup_cons.2 ⟨?_, ?_⟩⟩
    · simp only [List.mem_append, List.mem_singleton, blkA_mem, not_or]
      exact ⟨Ne.symm hne, h.ne_got⟩
    · intro hk; exact hng g3 (blkA_mem.1 hk) rfl
    · have h1 := h.nodup
      rw [h.fp] at h1
      exact (List.nodup_append.1 (List.nodup_cons.1 h1).2).2.1
  · intro k hk
    have hs4 := hfq.size
    rcases List.mem_cons.1 hk with rfl | hk
    · exact ⟨(h.low k hgF).1, Nat.lt_of_lt_of_le (h.low k hgF).2 hs4⟩
    rcases List.mem_append.1 hk with hk | hk
    · obtain rfl := List.mem_singleton.1 hk
      have := hbk3.lt
      exact ⟨hbg3, by simpa [World.setCell] using this⟩
    · have h1 := h.low k (by rw [h.fp]; simp [hk])
      exact ⟨h1.1, Nat.lt_of_lt_of_le h1.2 hs4⟩
  · intro x hx
    rcases List.mem_append.1 hx with hx | hx
    · exact (h.okW x hx).byt hfq.byt
    · obtain rfl := List.mem_singleton.1 hx
      exact hok4
  · exact fun x hx => (h.okG x hx).byt hfq.byt
  · intro k hk
    rcases List.mem_cons.1 hk with rfl | hk
    · exact .inl hgF
    rcases List.mem_append.1 hk with hk | hk
    · obtain rfl := List.mem_singleton.1 hk
      rcases hat3 with h1 | h1
      · exact .inl (by rw [h.fp]; simp [blkA_mem, h1])
      · right; simp at h1; omega
    · exact .inl (by rw [h.fp]; simp [hk])

theorem send_large {base : Nat} {F : List Nat} {g first next : Nat} {W G : List (List Nat)} (A : Option Addr) (n c : Nat) (w : World) (hn : 1000 < n) (hn2 : n ≤ 9223372036854775807) (h : EndS w base F g first next W G) :
    Calls Try.prog 45 #[.pointer (some ⟨g, 0, none⟩), .slice A n c] w fun e w' => e = .returned (.int .i64 2) ∧ w = w' := by
  clear h
  go_enter Try.func45, Try.ntmps45
  go_wp2_with fail
  go_ret
  exact ⟨rfl, rfl⟩

set_option maxHeartbeats 1600000 in
theorem send_any {base : Nat} {F : List Nat} {g first next : Nat} {W G : List (List Nat)} (m : Ms) (w : World) (hn : m.n ≤ 1000) (hm : MsOk w m) (hW : W.length < 500) (hb : base ≤ w.heap.size) (h : EndS w base F g first next W G) :
    Calls Try.prog 45 #[.pointer (some ⟨g, 0, none⟩), .slice m.A m.n m.c] w (EndP w base F g first next (W ++ [m.dat]) G (.int .i64 0)) := by
  obtain ⟨i0, hi0, hz0, hz1, hz2⟩ := info_parts T.info30
  obtain ⟨Ws, Gs, WA, GA, wc, gc, h, rfl, rfl⟩ := h
  rw [List.length_map] at hW
  obtain ⟨q, hq⟩ : ∃ q, q = Ws.length := ⟨_, rfl⟩
  have c1 : w.cell? ⟨g, 1, none⟩ = some (.slice WA Ws.length wc) := h.bk.cell 1
  have hbk0 := h.bk
  rw [← hq] at hbk0
  have HBK := Lib.hid hbk0
  have HSH : Hid (∀ w' o, Below w.drew.heap.size w.drew w' → Sh (w'.alloc o) base 30 1 WA q wc (msV Ws)) := Lib.hid fun w' o hb' => by rw [hq]; exact (Sh.below (w := w.drew) h.wait (hb'.alloc hb'.size _))
  clear hbk0
  have HST := Lib.hid h
  have HQ := Lib.hid hq
  rw [← hq] at c1 hW
  have HCL : Hid (Calls Try.prog 69 #[.slice m.A m.n m.c] w.drew (RetS w.drew 5 1 m.n (bytesV m.dat))) := Lib.hid <| bclone_any m.A m.n m.c w.heap.size (bytesV m.dat) w.drew hm.tr.rd (bytesV_one _) (Nat.le_refl _) (by omega)
  have HM := Lib.hid hm
  clear hm h hq
  generalize m.A = mA at *
  generalize hmn : m.n = mn at *
  generalize m.c = mc at *
  have HMN := Lib.hid hmn
  clear hmn
  have t0 : ((q : Int) == 500) = false := by simp; omega
  go_enter Try.func45, Try.ntmps45
  go_wp2_with fail
  go_region_law
    (first
      | (go_simp
         go_at_call 69
         (with_reducible refine (HCL.out).mono ?_)
         rintro e w2 ⟨A2, c2, rfl, hown2, hb2⟩
         have e1 : w2.cell? ⟨g, 1, none⟩ = some (.slice WA q wc) := (hb2.cell (p := ⟨g, 1, none⟩) HST.out.bk.lt).trans c1
         have e2 : (w2.alloc (.cells #[.slice A2 mn c2] 30)).cell? ⟨g, 1, none⟩ = some (.slice WA q wc) := (((HBK.out.drewN 1).below hb2 HST.out.bk.lt).alloc _).cell 1)
      | (refine step_append_sh rfl (.tmp 18) (.tmp 21) 74 rfl base 30 i0 (.slice none 0 0) 1 24 Try.underlying74 hi0 hz0 hz1 hz2 rfl (by decide) WA q wc (msV Ws) rfl (HSH.out _ _ hb2) w2.heap.size 1 30 #[.slice A2 mn c2] rfl (Bk.new _ _ _) rfl ?c1 (q + 1) rfl ?c2 ?c3 ?c4 ?_
         case c1 => simp [Value.oneCell']
         case c2 => unfold maxLen; omega
         case c3 => omega
         case c4 => have := hb2.size; simp at this; simp; omega
         intro g3 pre post c3 w3 hbg3 hbk3 hqc3 hc3 hpost3 hgr3 hat3
         have hne3 : WA.map (·.block) ≠ some g := HST.out.ne_wait
         have hk3 : Bk w3 g 123 #[.int .i64 first, .slice WA q wc, .int .i64 next, .slice GA Gs.length gc] := (((HBK.out.drewN 1).below hb2 HST.out.bk.lt).alloc _).grown hgr3 (Ne.symm hne3)
         have e3 : w3.cell? ⟨g, 1, none⟩ = some (.slice WA q wc) := hk3.cell 1
         have f3 : w3.frozen? ⟨g, 1, none⟩ = false := hk3.frozen 1))
  all_goals
    clear e1 c1 f3 e3 e2
    go_wp2_with fail
    go_ret
    exact send_close HST.out HQ.out HM.out HMN.out hown2 hb2 hbg3 hbk3.out hk3 hqc3 hc3 hpost3.out hgr3 hat3
end Go.Proofs.Ytlgcdcjfobfoiaa
