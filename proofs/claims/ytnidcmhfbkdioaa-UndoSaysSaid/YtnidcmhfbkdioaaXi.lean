/-
  A row in a block of its own, from an offset on; what an append to a row gives; slices.Delete; the contracts of undo.New, Now, turn, Names; a history in memory; plain: sizes of differences, a history as a list of worlds with names. Conditions: what is read can be read; bounded sizes.
-/
import Derived.Test.YtnidcmhfbkdioaaMl
import Derived.Test.YtnidcmhfbkdioaaUb
import Derived.Test.YtnidcmhfbkdioaaVg
import Derived.Test.YtnidcmhfbkdioaaMq
import Derived.Test.YtnidcmhfbkdioaaKi
namespace Go.Proofs.Ytnidcmhfbkdioaa
open Go.RowKit
set_option maxRecDepth 100000

/-! ### Xa -/
theorem take_set_sc {l : List Value} {o : Nat} {v : Value} (h : o < l.length) : (l.set o v).take (o + 1) = l.take o ++ [v] := by
  rw [List.take_add_one, List.take_set_of_le (Nat.le_refl _)]
  simp [h]
theorem drop_set_sc {l : List Value} {o m : Nat} {v : Value} (h : o < m) : (l.set o v).drop m = l.drop m := by
  rw [List.drop_set_of_lt h]
theorem Bk.setCells {g : Nat} {t : TypeId} : ∀ (vs : List Value) (o : Nat) (cs : Array Value) (w : World), Bk w g t cs → o + vs.length ≤ cs.size → ∃ cs', Bk (w.setCells g o vs) g t cs' ∧ cs'.toList = cs.toList.take o ++ vs ++ cs.toList.drop (o + vs.length)
  | [], o, cs, w, h, _ => ⟨cs, h, by simp⟩
  | v :: r, o, cs, w, h, hs => by
    rw [List.length_cons] at hs
    obtain ⟨cs', h1, h2⟩ := Bk.setCells r (o + 1) (cs.setIfInBounds o v) _ (h.set_ o v) (by simp; omega)
    refine ⟨cs', h1, ?_⟩
    rw [h2, Array.toList_setIfInBounds, take_set_sc (by simpa using (by omega : o < cs.size)), drop_set_sc (by omega), List.length_cons, show o + 1 + r.length = o + (r.length + 1) by omega]
    simp
theorem seg_put {l vs : List Value} {o k : Nat} (hk : o + k + vs.length ≤ l.length) : ((l.take (o + k) ++ vs ++ l.drop (o + k + vs.length)).drop o).take (k + vs.length) = (l.drop o).take k ++ vs := by
  have h1 : l.take (o + k) = l.take o ++ (l.drop o).take k := by rw [List.take_add]
  have h2 : (l.take o).length = o := by rw [List.length_take]; omega
  have h3 : ((l.drop o).take k).length = k := by rw [List.length_take, List.length_drop]; omega
  rw [h1, List.append_assoc, List.append_assoc, List.drop_append_of_le_length (by omega), List.drop_of_length_le (by omega), List.nil_append, ← List.append_assoc, List.take_append_of_le_length (by rw [List.length_append]; omega), List.take_of_length_le (by rw [List.length_append]; omega)]
theorem seg_keep {l vs : List Value} {o k m : Nat} (hk : m ≤ k) (hl : o + k + vs.length ≤ l.length) : ((l.take (o + k) ++ vs ++ l.drop (o + k + vs.length)).drop o).take m = (l.drop o).take m := by
  have h1 : l.take (o + k) = l.take o ++ (l.drop o).take k := by rw [List.take_add]
  have h2 : (l.take o).length = o := by rw [List.length_take]; omega
  have h3 : ((l.drop o).take k).length = k := by rw [List.length_take, List.length_drop]; omega
  rw [h1, List.append_assoc, List.append_assoc, List.drop_append_of_le_length (by omega), List.drop_of_length_le (by omega), List.nil_append, List.take_append_of_le_length (by omega), List.take_take, Nat.min_eq_left hk]

theorem T.info9S : (Try.prog.info? 9).map (fun i => (i.zero, i.size, i.bytes)) = some (some (.string ByteArray.empty), 1, 16) := by kernel_rfl
/-- A row in a block of its own, from an offset on. -/
def OwnO (w : World) (base : Nat) (t : TypeId) (sz : Nat) (A : Option Addr) (n c : Nat) (xs : List Value) : Prop :=
  xs.length = n * sz ∧ ((A = none ∧ n = 0 ∧ c = 0) ∨ ∃ g o cur, A = some ⟨g, o, none⟩ ∧ base ≤ g ∧ Bk w g t cur ∧ n ≤ c ∧ c ≤ 9223372036854775807 ∧ o + c * sz ≤ cur.size ∧ (cur.toList.drop o).take (n * sz) = xs)

section
variable {w w' : World} {base sz n c : Nat} {t : TypeId} {A : Option Addr} {xs : List Value} {F : List TypeId}
theorem OwnO.nil_ : OwnO w base t sz none 0 0 [] := ⟨by simp, .inl ⟨rfl, rfl, rfl⟩⟩
theorem OwnO.of_own (h : w.ownsRow base t sz (.slice A n c) n xs) : OwnO w base t sz A n c xs := by
  refine ⟨h.1, ?_⟩
  rcases h.2 with ⟨hv, hn⟩ | ⟨g, cap, cur, hv, h3, h4, h5, h6, h7, h8⟩
  · injection hv with h1 h2 h3
    exact .inl ⟨h1, hn, h3⟩
  · injection hv with h1 h2 h3'
    subst h1 h3'
    exact .inr ⟨g, 0, cur, rfl, h3, h4, h5, by unfold maxLen at h6; omega, by omega, by simpa using h8⟩
theorem OwnO.frame (h : OwnO w base t sz A n c xs) (hk : ∀ g, (Value.slice A n c).ownBlock = some g → w'.heap[g]? = w.heap[g]?) : OwnO w' base t sz A n c xs := by
  refine ⟨h.1, ?_⟩
  rcases h.2 with h2 | ⟨g, o, cur, rfl, h3, h4, h5⟩
  · exact .inl h2
  · exact .inr ⟨g, o, cur, rfl, h3, (hk g rfl).trans h4, h5⟩
theorem OwnO.keep (h : OwnO w base t sz A n c xs) (hq : Kx 0 F w w') (ht : t ∉ F) : OwnO w' base t sz A n c xs := by
  refine ⟨h.1, ?_⟩
  rcases h.2 with h2 | ⟨g, o, cur, rfl, h3, h4, h5⟩
  · exact .inl h2
  · exact .inr ⟨g, o, cur, rfl, h3, hq.bk h4 ht, h5⟩
theorem OwnO.rdy (h : OwnO w base t sz A n c xs) : RdY w 0 t sz A n xs := ⟨h.1, fun hn => by
  rcases h.2 with h2 | ⟨g, o, cur, rfl, h3, h4, h5, h6, h7, h8⟩
  · omega
  · refine ⟨g, o, rfl, h4.lt, .inr ⟨cur, h4⟩, fun j u hu => ?_⟩
    rw [h4.cell, ← Array.getElem?_toList]
    rw [← h8, List.getElem?_take] at hu
    split at hu
    · rwa [List.getElem?_drop] at hu
    · cases hu⟩
theorem OwnO.ty (h : OwnO w base t sz A n c xs) : ∀ q, (Value.slice A n c).ownBlock = some q → base ≤ q ∧ ∃ cs, Bk w q t cs := by
  intro q hq
  rcases h.2 with ⟨rfl, _, _⟩ | ⟨g, o, cur, rfl, h3, h4, _⟩
  · simp [Value.ownBlock] at hq
  · have e : g = q := by simpa [Value.ownBlock] using hq
    subst e; exact ⟨h3, cur, h4⟩
theorem OwnO.caps (h : OwnO w base t sz A n c xs) : n ≤ c ∧ c ≤ 9223372036854775807 := by
  rcases h.2 with ⟨_, h1, h2⟩ | ⟨g, o, cur, _, _, _, h5, h6, _⟩
  · omega
  · exact ⟨h5, h6⟩
theorem OwnO.at_ (h : OwnO w base t sz A n c xs) (hn : 0 < n) : ∃ g o cur, A = some ⟨g, o, none⟩ ∧ base ≤ g ∧ Bk w g t cur ∧ n ≤ c ∧ c ≤ 9223372036854775807 ∧ o + c * sz ≤ cur.size ∧ (cur.toList.drop o).take (n * sz) = xs := by
  rcases h.2 with ⟨_, h1, h2⟩ | h
  · omega
  · exact h
/-- A row without its first element. -/
theorem OwnO.tail {ys : List Value} (h : OwnO w base t sz A (n + 1) c (ys ++ xs)) (hy : ys.length = sz) : ∃ g o, A = some ⟨g, o, none⟩ ∧ OwnO w base t sz (some ⟨g, o + sz, none⟩) n (c - 1) xs := by
  have hl := h.1
  obtain ⟨g, o, cur, rfl, h3, h4, h5, h6, h7, h8⟩ := h.at_ (by omega)
  obtain ⟨c, rfl⟩ : ∃ c', c = c' + 1 := ⟨c - 1, by omega⟩
  rw [Nat.succ_mul] at h7
  rw [List.length_append, hy, Nat.succ_mul] at hl
  refine ⟨g, o, rfl, by omega, .inr ⟨g, o + sz, cur, rfl, h3, h4, by omega, by omega, by simp; omega, ?_⟩⟩
  have h9 := congrArg (List.drop sz) h8
  rw [List.drop_take, List.drop_drop, Nat.succ_mul, Nat.add_sub_cancel, ← hy, List.drop_left] at h9
  rw [← hy]
  exact h9
/-- The first elements of a row. -/
theorem OwnO.head {ys : List Value} {m : Nat} (h : OwnO w base t sz A n c (xs ++ ys)) (hm : xs.length = m * sz) (hmn : m ≤ n) : OwnO w base t sz A m c xs := by
  refine ⟨hm, ?_⟩
  rcases h.2 with ⟨h1, h2, h3⟩ | ⟨g, o, cur, rfl, h3, h4, h5, h6, h7, h8⟩
  · exact .inl ⟨h1, by omega, h3⟩
  · refine .inr ⟨g, o, cur, rfl, h3, h4, by omega, h6, h7, ?_⟩
    have h9 := congrArg (List.take (m * sz)) h8
    rw [List.take_take, Nat.min_eq_left (Nat.mul_le_mul_right _ hmn), ← hm, List.take_append_of_le_length (Nat.le_refl _), List.take_length] at h9
    rw [← hm]; exact h9
end

theorem grown_setCells (w : World) (g o : Nat) (vs : List Value) : w.grownBy (w.setCells g o vs) (some g) := by
  induction vs generalizing w o with
  | nil => exact ⟨rfl, rfl, rfl, Nat.le_refl _, fun _ _ _ => rfl⟩
  | cons v r ih =>
    have h := ih (w.setCell ⟨g, o, none⟩ v) (o + 1)
    have h0 : w.grownBy (w.setCell ⟨g, o, none⟩ v) (some g) := Gb.set_ ⟨rfl, rfl, rfl, Nat.le_refl _, fun _ _ _ => rfl⟩ o v
    exact ⟨h.os.trans h0.os, h.tape.trans h0.tape, h.output.trans h0.output, Nat.le_trans h0.size h.size, fun k hk hne => (h.block k (Nat.lt_of_lt_of_le hk h0.size) hne).trans (h0.block k hk hne)⟩

theorem Kx.gb1 {B hb : Nat} {t : TypeId} {cs : Array Value} {w w' : World} (h : w.grownBy w' (some hb)) (hk : Bk w hb t cs) (hB : B ≤ hb) : Kx B [t] w w' :=
  ⟨h.size, fun b h1 h2 => h.block b h2 (fun e => by injection e with e; omega), fun b t' cs' h1 h2 => h1.grown h (fun e => by
    injection e with e
    subst e
    exact Bk.ne_ h1 hk (fun e => h2 (by rw [e]; simp)) rfl)⟩
theorem opw_append_g {o : Oper} {a : Act} {w : World} {K : Act → World → Prop} {Q : Exit → Act → World → Prop} {base n c b c1 : Nat} {A : Option Addr} {xs : List Value} {cs : Array Value} {ts e : TypeId} {iS : TypeInfo} {z : Value} {sz bytes : Nat} (hgd : o.guard = none) (s x : Operand)
    (ho : o.op = .call { callee := .builtin .append, args := #[s, x], argTypes := #[ts, ts] }) (hu : Try.prog.underlying ts = some (.slice e)) (hi : Try.prog.info? e = some iS) (hz0 : iS.zero = some z) (hz1 : iS.size = sz) (hz2 : iS.bytes = bytes) (hzs : z.cells.size = sz) (hsz : 0 < sz) (hby : bytes ≤ 1000)
    (hr : RdY w 0 e sz A n xs) (hm : (c = n ∧ (A = none → n = 0)) ∨ OwnO w base e sz A n c xs) (hs : a.eval s = .slice A n c) (hx : a.eval x = .slice (some ⟨b, 0, none⟩) 1 c1) (hb : Bk w b e cs) (hcs : cs.size = sz) (h1 : ∀ u ∈ cs.toList, u.oneCell' = true)
    (hsm : n < 1000000) (hbase : base ≤ w.heap.size)
    (h : ∀ g' o' c' w', OwnO w' base e sz (some ⟨g', o', none⟩) (n + 1) c' (xs ++ cs.toList) → w.grownBy w' (Value.slice A n c).ownBlock → ((Value.slice A n c).ownBlock = some g' ∨ w.heap.size ≤ g') → K (a.put o.dst (.slice (some ⟨g', o', none⟩) (n + 1) c')) w') : Oper.wp Try.prog o a w K Q := by
  have hby2 : (n + 1) * bytes ≤ 1000000 * 1000 := Nat.mul_le_mul (by omega) hby
  have nil_case : A = none → n = 0 → c = 0 → Oper.wp Try.prog o a w K Q := fun hA hn hc => by
    subst hA hn hc
    have e0 : xs = [] := List.eq_nil_of_length_eq_zero (by rw [hr.1]; simp)
    have := step_append_one (ops := #[]) (E := False) (Q := Q) hgd s x ts ho base e iS z sz bytes hu hi hz0 hz1 hz2 hzs hsz (.slice none 0 0) 0 xs hs (by rw [e0]; exact World.ownsRow_nil _ _ _ _) b c1 e cs hx hb hcs h1 (0 + 1) rfl (by unfold maxLen; omega) (by omega) hbase
      (fun g' c' w' h2 h3 h4 => h g' 0 c' w' (OwnO.of_own h2) h3 (h4.imp id fun e => by rw [e]; exact Nat.le_refl _))
    rwa [if_pos (by simp [Region.wanted, hgd])] at this
  have grow_case : ∀ ad, A = some ad → c = n → Oper.wp Try.prog o a w K Q := fun ad hA hc => by
    subst hA hc
    have hcell : ∀ j u, xs[j]? = some u → w.cell? (ad.add j) = some u := fun j u hu => by
      have hj := (List.getElem?_eq_some_iff.1 hu).1
      rw [hr.1] at hj
      have hc0 : 0 < c := by
        rcases Nat.eq_zero_or_pos c with h | h
        · rw [h] at hj; simp at hj
        · exact h
      obtain ⟨b', o', e, _, _, h4⟩ := hr.2 hc0
      injection e with e
      rw [e, Addr.add_lit]
      exact h4 j u hu
    obtain ⟨v', w', hrun, r1, r2⟩ := run_append_arg_grows (P := Try.prog) w ts o.type e iS z sz bytes hu hi hz0 hz1 hz2 hzs hsz ad c c xs hr.1 hcell ⟨b, 0, none⟩ 1 c1 cs.toList (by simp [hcs]) (fun j u hu => by rw [Addr.add_lit, Nat.zero_add]; exact (hb.cell j).trans (by simpa using hu)) (by omega) (by unfold maxLen; omega) (by omega)
    obtain ⟨g', c', hv, hlo, _⟩ := r1.form (by omega)
    subst hv
    have r2' : w.grownBy w' (Value.slice (some ad) c c).ownBlock := ⟨r2.os, r2.tape, r2.output, r2.size, fun i hi _ => r2.block i hi (by simp)⟩
    have := h g' 0 c' w' (OwnO.of_own (own_mono r1 hbase)) r2' (.inr hlo)
    unfold Oper.wp
    simp [execOp, ho, resolve, invoke, builtin, hs, hx, hrun, Result.andThen]
    exact this
  rcases hm with ⟨hc, hA⟩ | hown
  · cases A with
    | none => exact nil_case rfl (hA rfl) (by rw [hc]; exact hA rfl)
    | some ad => exact grow_case ad rfl hc
  · rcases hown.2 with ⟨h2, h3, h4⟩ | ⟨g, of, cur, h2, h3, h4, h5, h6, h7, h8⟩
    · exact nil_case h2 h3 h4
    · rcases Nat.lt_or_ge n c with hlt | hge
      · subst h2
        have hfit : of + (n + 1) * sz ≤ cur.size := Nat.le_trans (Nat.add_le_add_left (Nat.mul_le_mul_right _ hlt) _) h7
        rw [Nat.succ_mul] at hfit
        have hl : cs.toList.length = sz := by simp [hcs]
        obtain ⟨cur', k1, k2⟩ := Bk.setCells cs.toList (of + n * sz) cur w h4 (by omega)
        have hfin := h g of c (w.setCells g (of + n * sz) cs.toList) ⟨by rw [List.length_append, hr.1, hl, Nat.succ_mul], .inr ⟨g, of, cur', rfl, h3, k1, hlt, h6, by
            have := congrArg List.length k2
            simp only [List.length_append, List.length_take, List.length_drop, Array.length_toList] at this
            omega, by
            have hsp := seg_put (l := cur.toList) (vs := cs.toList) (o := of) (k := n * sz) (by simp only [Array.length_toList] at hl ⊢; omega)
            rw [hl] at hsp
            rw [k2, hl, Nat.succ_mul, hsp, h8]⟩⟩ (grown_setCells w g _ _) (.inl rfl)
        have := step_append_room (P := Try.prog) (ops := #[]) (E := False) (Q := Q) (K := K) hgd s x ts ho e iS sz hu hi hz1 g of n c hs ⟨b, 0, none⟩ 1 c1 cs.toList hx (by simp [hcs]) (fun j u hu => by rw [Addr.add_lit, Nat.zero_add]; exact (hb.cell j).trans (by simpa using hu)) h1 hlt (fun j hj => ⟨by rw [h4.cell, Array.getElem?_eq_getElem (by omega)]; rfl, h4.frozen _⟩) hfin
        rwa [if_pos (by simp [Region.wanted, hgd])] at this
      · exact grow_case _ h2 (by omega)

/-! ### Xd -/
theorem run_clear_g {P : Program} (w : World) (t e ty : TypeId) (z : Value) (ht : P.underlying t = some (.slice e)) (hv : ∀ w, (zeroValue e).run P w = .ok z w) (b o n c : Nat) (hn : 0 < n) (Z : List Value) (hZ : (Builtin.zeroCells z.cells n).toList = Z) (h1 : ∀ u ∈ Z, u.oneCell' = true)
    (hc : ∀ j, j < Z.length → (w.cell? ⟨b, o + j, none⟩).isSome = true) (hf : ∀ j, j < Z.length → w.frozen? ⟨b, o + j, none⟩ = false) :
    (Builtin.clear_ #[t] ty #[.slice (some ⟨b, o, none⟩) n c]).run P w = .ok (.tuple #[]) (w.setCells b o Z) := by
  have hst := run_storeCells_cells (P := P) b o Z 0 w (by simpa using hc) (by simpa using hf) h1
  simp only [Nat.add_zero] at hst
  obtain ⟨m, rfl⟩ : ∃ m, n = m + 1 := ⟨n - 1, by omega⟩
  simp [Builtin.clear_, run_underlying ht, hv, hZ, hst]
theorem zeroCells_mem {zs : Array Value} {n : Nat} {u : Value} (h : u ∈ (Builtin.zeroCells zs n).toList) (h0 : 0 < zs.size) : u ∈ zs.toList := by
  simp only [Builtin.zeroCells, Array.toList_map, List.mem_map] at h
  obtain ⟨i, _, rfl⟩ := h
  have hlt : i % zs.size < zs.size := Nat.mod_lt _ h0
  rw [getElem!_pos zs _ hlt]
  simp
theorem zeroCells_len (zs : Array Value) (n : Nat) : (Builtin.zeroCells zs n).toList.length = n * zs.size := by simp [Builtin.zeroCells]

/-- What Delete leaves of a row. -/
theorem del_end {w : World} {base g o n c i j sz : Nat} {t : TypeId} {cur : Array Value} {X1 X3 Z : List Value} (hb : base ≤ g) (hbk : Bk w g t cur) (hnc : n ≤ c) (hc : c ≤ 9223372036854775807) (hfit : o + c * sz ≤ cur.size) (hij : i ≤ j) (hjn : j ≤ n) (h1 : X1.length = i * sz) (h3 : X3.length = (n - j) * sz) (hz : Z.length = (j - i) * sz) (hseg : (cur.toList.drop o).take (i * sz) = X1) :
    Bk (w.setCells g (o + i * sz) X3) g t ((cur.toList.take (o + i * sz) ++ X3 ++ cur.toList.drop (o + i * sz + X3.length)).toArray) ∧
      OwnO ((w.setCells g (o + i * sz) X3).setCells g (o + (i + (n - j)) * sz) Z) base t sz (some ⟨g, o, none⟩) (n - (j - i)) c (X1 ++ X3) ∧ Kx base [t] w ((w.setCells g (o + i * sz) X3).setCells g (o + (i + (n - j)) * sz) Z) := by
  have hn1 : n * sz = i * sz + (j - i) * sz + (n - j) * sz := by rw [← Nat.add_mul, ← Nat.add_mul]; congr 1; omega
  have hn2 : (i + (n - j)) * sz = i * sz + (n - j) * sz := Nat.add_mul ..
  have hn3 : (n - (j - i)) * sz = i * sz + (n - j) * sz := by rw [← Nat.add_mul]; congr 1; omega
  have hn4 : n * sz ≤ c * sz := Nat.mul_le_mul_right _ hnc
  obtain ⟨cur1, k1, k2⟩ := Bk.setCells X3 (o + i * sz) cur w hbk (by omega)
  have hs1 : cur1.size = cur.size := by
    have := congrArg List.length k2
    simp only [List.length_append, List.length_take, List.length_drop, Array.length_toList] at this
    omega
  have ek : cur1 = (cur.toList.take (o + i * sz) ++ X3 ++ cur.toList.drop (o + i * sz + X3.length)).toArray := by rw [← k2]
  obtain ⟨cur2, k3, k4⟩ := Bk.setCells Z (o + (i + (n - j)) * sz) cur1 _ k1 (by rw [hs1, hn2, hz]; omega)
  have hs2 : cur2.size = cur1.size := by
    have := congrArg List.length k4
    simp only [List.length_append, List.length_take, List.length_drop, Array.length_toList] at this
    omega
  have hl0 : cur.toList.length = cur.size := Array.length_toList
  have hl1 : cur1.toList.length = cur1.size := Array.length_toList
  refine ⟨by rw [← ek]; exact k1, ⟨by rw [List.length_append, h1, h3, hn3], .inr ⟨g, o, cur2, rfl, hb, k3, by omega, hc, by omega, ?_⟩⟩, ?_⟩
  · rw [k4, hn3, hn2, seg_keep (Nat.le_refl _) (by omega), k2, ← h3, seg_put (by omega), hseg]
  · exact (Kx.gb1 (grown_setCells w g _ X3) hbk hb).trans (Kx.gb1 (grown_setCells _ g _ Z) k1 hb)
/-! Delete -/
theorem T.infoWdD : (Try.prog.info? 52).map (fun i => (i.zero, i.size, i.bytes)) = some (some (.agg #[.slice none 0 0, .slice none 0 0, .slice none 0 0]), 3, 72) := by kernel_rfl

set_option maxHeartbeats 4000000 in
theorem delW_any (A : Option Addr) (n c i j base : Nat) (X1 X2 X3 : List Value) (w : World) (h : OwnO w base 52 3 A n c (X1 ++ X2 ++ X3)) (h1 : X1.length = i * 3) (h2 : X2.length = (j - i) * 3) (hij : i ≤ j) (hjn : j ≤ n) (hn : 0 < n) (ho : ∀ u ∈ X3, u.oneCell' = true) :
    Calls Try.prog 90 #[.slice A n c, .int .i64 i, .int .i64 j] w fun e w' => e = .returned (.slice A (n - (j - i)) c) ∧ Hid (OwnO w' base 52 3 A (n - (j - i)) c (X1 ++ X3) ∧ Kx base [52] w w' ∧ w'.os = w.os ∧ w'.tape = w.tape ∧ w'.output = w.output) := by
  have hl := h.1
  have hlx : X1.length + X2.length + X3.length = n * 3 := by rw [← hl, List.length_append, List.length_append]
  have h3 : X3.length = (n - j) * 3 := by omega
  obtain ⟨g, o, cur, rfl, hb, hbk, hnc, hc, hfit, hseg⟩ := h.at_ hn
  by_cases heq : i = j
  · subst heq
    have e2 : X2 = [] := List.eq_nil_of_length_eq_zero (by rw [h2]; simp)
    have HH : Hid (OwnO w base 52 3 (some ⟨g, o, none⟩) n c (X1 ++ X3)) := Lib.hid (by have := h; rw [e2, List.append_nil] at this; exact this)
    have hcz : (n : Int) ≤ c := by omega
    clear h hl hlx h1 h2 h3 hbk hseg ho e2
    go_enter Try.func90, Try.ntmps90
    go_wp2
    all_goals
      go_ret
      exact ⟨by first | rfl | (rw [Nat.sub_self, Nat.sub_zero]; done) | (simp; done), Lib.hid ⟨by first | exact HH.out | (rw [Nat.sub_self, Nat.sub_zero]; exact HH.out) | (have h9 := HH.out; rw [h] at h9; exact h9), Kx.refl, rfl, rfl, rfl⟩⟩
  · have hlt : i < j := by omega
    obtain ⟨iW, hiW, hzW0, hzW1, hzW2⟩ := info_parts T.infoWdD
    have hcell : ∀ t u, (X1 ++ X2 ++ X3)[t]? = some u → w.cell? ⟨g, o + t, none⟩ = some u := by
      obtain ⟨b', o', e', _, _, h4⟩ := h.rdy.2 hn
      injection e' with e'
      injection e' with e1 e2
      subst e1 e2
      exact h4
    obtain ⟨A', hA, hsrc⟩ : ∃ A' : Addr, (if c = j then some (⟨g, o, none⟩ : Addr) else some ⟨g, o + j * 3, none⟩) = some A' ∧ Hid (∀ t u, X3[t]? = some u → w.drew.cell? (A'.add t) = some u) := by
      by_cases hcj : c = j
      · refine ⟨⟨g, o, none⟩, by simp [hcj], Lib.hid fun t u hu => ?_⟩
        have h0 : X3 = [] := List.eq_nil_of_length_eq_zero (by rw [h3, show n - j = 0 by omega, Nat.zero_mul])
        rw [h0] at hu; simp at hu
      · refine ⟨⟨g, o + j * 3, none⟩, by simp [hcj], Lib.hid fun t u hu => ?_⟩
        rw [Addr.add_lit, Nat.add_assoc]
        refine hcell (j * 3 + t) u ?_
        rw [List.getElem?_append_right (by rw [List.length_append, h1, h2]; omega), List.length_append, h1, h2, show j * 3 + t - (i * 3 + (j - i) * 3) = t by omega]
        exact hu
    obtain ⟨Z, hZ⟩ : ∃ Z, (Builtin.zeroCells (.agg #[.slice none 0 0, .slice none 0 0, .slice none 0 0] : Value).cells (n - (i + (n - j)))).toList = Z := ⟨_, rfl⟩
    have hZl : Z.length = (j - i) * 3 := by rw [← hZ, zeroCells_len]; show _ * 3 = _; omega
    have hZ1 : ∀ u ∈ Z, u.oneCell' = true := fun u hu => by
      rw [← hZ] at hu
      have := zeroCells_mem hu (by decide)
      simp [Value.cells] at this
      subst this; rfl
    have hX1 : (cur.toList.drop o).take (i * 3) = X1 := by
      have h9 := congrArg (List.take (i * 3)) hseg
      rw [List.take_take, Nat.min_eq_left (by omega), List.append_assoc, ← h1, List.take_append_of_le_length (Nat.le_refl _), List.take_length] at h9
      rw [← h1]; exact h9
    have hfin := del_end (w := w.drew) (c := c) (cur := cur) hb hbk.drew hnc hc hfit hij hjn h1 h3 hZl hX1
    have hsz : cur.size = (cur.toList.take (o + i * 3) ++ X3 ++ cur.toList.drop (o + i * 3 + X3.length)).toArray.size := by simp; omega
    obtain ⟨W1, hW1⟩ : ∃ W1, W1 = w.drew.setCells g (o + i * 3) X3 := ⟨_, rfl⟩
    rw [← hW1] at hfin
    have hcl : ∀ ty, (Builtin.clear_ #[58] ty #[.slice (some ⟨g, o + (i + (n - j)) * 3, none⟩) (n - (i + (n - j))) (c - (i + (n - j)))]).run Try.prog W1 = .ok (.tuple #[]) (W1.setCells g (o + (i + (n - j)) * 3) Z) := fun ty => run_clear_g W1 58 52 ty _ Try.underlying58 (by intro w; kernel_rfl) g _ _ _ (by omega) Z hZ hZ1 (fun t ht => by rw [hfin.1.cell, Array.getElem?_eq_getElem (by rw [← hsz]; omega)]; rfl) (fun t ht => hfin.1.frozen _)
    have s1 : Hid (X3.length = (n - j) * 3) := Lib.hid h3
    have s3 : Hid (∀ t, t < X3.length → (w.drew.cell? ⟨g, o + i * 3 + t, none⟩).isSome = true ∧ w.drew.frozen? ⟨g, o + i * 3 + t, none⟩ = false) := Lib.hid fun t ht => ⟨by rw [hbk.drew.cell, Array.getElem?_eq_getElem (by omega)]; rfl, hbk.drew.frozen _⟩
    have HO := Lib.hid ho
    have HW := Lib.hid hW1
    have HF := Lib.hid hfin
    have hic : i ≤ c := by omega
    have hjc : j ≤ c := by omega
    clear hW1 hfin h hl hlx h1 h2 h3 hbk hseg ho hcell hZ hZl hZ1 hX1 hsz
    go_enter Try.func90, Try.ntmps90
    go_wp2_with fail
    go_region_law
      (refine step_append_room rfl (.tmp 22) (.tmp 25) 58 rfl 52 iW 3 Try.underlying58 hiW hzW1 g o i c (by simp [Act.eval, Act.put]) A' (n - j) (c - j) X3 (by simp [Act.eval, Act.put]) s1.out hsrc.out HO.out (by omega) s3.out ?_
       rw [← HW.out])
    all_goals
      go_wp2
      go_ret
      exact ⟨by rw [show n - (j - i) = i + (n - j) by omega]; rfl, Lib.hid ⟨HF.out.2.1, (Kx.refl (B := base) (F := [52])).drew.trans HF.out.2.2, by rw [HW.out]; exact ((grown_setCells _ g _ Z).os.trans (grown_setCells _ g _ X3).os), by rw [HW.out]; exact ((grown_setCells _ g _ Z).tape.trans (grown_setCells _ g _ X3).tape), by rw [HW.out]; exact ((grown_setCells _ g _ Z).output.trans (grown_setCells _ g _ X3).output)⟩⟩

set_option maxHeartbeats 4000000 in
theorem delS_any (A : Option Addr) (n c i j base : Nat) (X1 X2 X3 : List Value) (w : World) (h : OwnO w base 9 1 A n c (X1 ++ X2 ++ X3)) (h1 : X1.length = i * 1) (h2 : X2.length = (j - i) * 1) (hij : i ≤ j) (hjn : j ≤ n) (hn : 0 < n) (ho : ∀ u ∈ X3, u.oneCell' = true) :
    Calls Try.prog 91 #[.slice A n c, .int .i64 i, .int .i64 j] w fun e w' => e = .returned (.slice A (n - (j - i)) c) ∧ Hid (OwnO w' base 9 1 A (n - (j - i)) c (X1 ++ X3) ∧ Kx base [9] w w' ∧ w'.os = w.os ∧ w'.tape = w.tape ∧ w'.output = w.output) := by
  have hl := h.1
  have hlx : X1.length + X2.length + X3.length = n * 1 := by rw [← hl, List.length_append, List.length_append]
  have h3 : X3.length = (n - j) * 1 := by omega
  obtain ⟨g, o, cur, rfl, hb, hbk, hnc, hc, hfit, hseg⟩ := h.at_ hn
  by_cases heq : i = j
  · subst heq
    have e2 : X2 = [] := List.eq_nil_of_length_eq_zero (by rw [h2]; simp)
    have HH : Hid (OwnO w base 9 1 (some ⟨g, o, none⟩) n c (X1 ++ X3)) := Lib.hid (by have := h; rw [e2, List.append_nil] at this; exact this)
    have hcz : (n : Int) ≤ c := by omega
    clear h hl hlx h1 h2 h3 hbk hseg ho e2
    go_enter Try.func91, Try.ntmps91
    go_wp2
    all_goals
      go_ret
      exact ⟨by first | rfl | (rw [Nat.sub_self, Nat.sub_zero]; done) | (simp; done), Lib.hid ⟨by first | exact HH.out | (rw [Nat.sub_self, Nat.sub_zero]; exact HH.out) | (have h9 := HH.out; rw [h] at h9; exact h9), Kx.refl, rfl, rfl, rfl⟩⟩
  · have hlt : i < j := by omega
    obtain ⟨iW, hiW, hzW0, hzW1, hzW2⟩ := info_parts T.info9S
    have hcell : ∀ t u, (X1 ++ X2 ++ X3)[t]? = some u → w.cell? ⟨g, o + t, none⟩ = some u := by
      obtain ⟨b', o', e', _, _, h4⟩ := h.rdy.2 hn
      injection e' with e'
      injection e' with e1 e2
      subst e1 e2
      exact h4
    obtain ⟨A', hA, hsrc⟩ : ∃ A' : Addr, (if c = j then some (⟨g, o, none⟩ : Addr) else some ⟨g, o + j, none⟩) = some A' ∧ Hid (∀ t u, X3[t]? = some u → w.drew.cell? (A'.add t) = some u) := by
      by_cases hcj : c = j
      · refine ⟨⟨g, o, none⟩, by simp [hcj], Lib.hid fun t u hu => ?_⟩
        have h0 : X3 = [] := List.eq_nil_of_length_eq_zero (by rw [h3, show n - j = 0 by omega, Nat.zero_mul])
        rw [h0] at hu; simp at hu
      · refine ⟨⟨g, o + j, none⟩, by simp [hcj], Lib.hid fun t u hu => ?_⟩
        rw [Addr.add_lit, Nat.add_assoc]
        refine hcell (j + t) u ?_
        rw [List.getElem?_append_right (by rw [List.length_append, h1, h2]; omega), List.length_append, h1, h2, show j + t - (i * 1 + (j - i) * 1) = t by omega]
        exact hu
    obtain ⟨Z, hZ⟩ : ∃ Z, (Builtin.zeroCells (.string ByteArray.empty : Value).cells (n - (i + (n - j)))).toList = Z := ⟨_, rfl⟩
    have hZl : Z.length = (j - i) * 1 := by rw [← hZ, zeroCells_len]; show _ * 1 = _; omega
    have hZ1 : ∀ u ∈ Z, u.oneCell' = true := fun u hu => by
      rw [← hZ] at hu
      have := zeroCells_mem hu (by decide)
      simp [Value.cells] at this
      subst this; rfl
    have hX1 : (cur.toList.drop o).take (i * 1) = X1 := by
      have h9 := congrArg (List.take (i * 1)) hseg
      rw [List.take_take, Nat.min_eq_left (by omega), List.append_assoc, ← h1, List.take_append_of_le_length (Nat.le_refl _), List.take_length] at h9
      rw [← h1]; exact h9
    have hfin := del_end (w := w.drew) (c := c) (cur := cur) hb hbk.drew hnc hc hfit hij hjn h1 h3 hZl hX1
    have hsz : cur.size = (cur.toList.take (o + i * 1) ++ X3 ++ cur.toList.drop (o + i * 1 + X3.length)).toArray.size := by simp; omega
    obtain ⟨W1, hW1⟩ : ∃ W1, W1 = w.drew.setCells g (o + i * 1) X3 := ⟨_, rfl⟩
    rw [← hW1] at hfin
    rw [Nat.mul_one (i + (n - j))] at hfin
    have hcl : ∀ ty, (Builtin.clear_ #[108] ty #[.slice (some ⟨g, o + (i + (n - j)), none⟩) (n - (i + (n - j))) (c - (i + (n - j)))]).run Try.prog W1 = .ok (.tuple #[]) (W1.setCells g (o + (i + (n - j))) Z) := fun ty => run_clear_g W1 108 9 ty _ Try.underlying108 (by intro w; kernel_rfl) g _ _ _ (by omega) Z hZ hZ1 (fun t ht => by rw [hfin.1.cell, Array.getElem?_eq_getElem (by rw [← hsz]; omega)]; rfl) (fun t ht => hfin.1.frozen _)
    have s1 : Hid (X3.length = (n - j) * 1) := Lib.hid h3
    have s3 : Hid (∀ t, t < X3.length → (w.drew.cell? ⟨g, o + i * 1 + t, none⟩).isSome = true ∧ w.drew.frozen? ⟨g, o + i * 1 + t, none⟩ = false) := Lib.hid fun t ht => ⟨by rw [hbk.drew.cell, Array.getElem?_eq_getElem (by omega)]; rfl, hbk.drew.frozen _⟩
    have HO := Lib.hid ho
    have HW := Lib.hid hW1
    have HF := Lib.hid hfin
    have hic : i ≤ c := by omega
    have hjc : j ≤ c := by omega
    clear hW1 hfin h hl hlx h1 h2 h3 hbk hseg ho hcell hZ hZl hZ1 hX1 hsz
    go_enter Try.func91, Try.ntmps91
    go_wp2_with fail
    go_region_law
      (refine step_append_room rfl (.tmp 22) (.tmp 25) 108 rfl 9 iW 1 Try.underlying108 hiW hzW1 g o i c (by simp [Act.eval, Act.put]) A' (n - j) (c - j) X3 (by simp [Act.eval, Act.put]) s1.out hsrc.out HO.out (by omega) s3.out ?_
       rw [← HW.out])
    all_goals
      go_wp2
      go_ret
      exact ⟨by rw [show n - (j - i) = i + (n - j) by omega]; rfl, Lib.hid ⟨HF.out.2.1, (Kx.refl (B := base) (F := [9])).drew.trans HF.out.2.2, by rw [HW.out]; exact ((grown_setCells _ g _ Z).os.trans (grown_setCells _ g _ X3).os), by rw [HW.out]; exact ((grown_setCells _ g _ Z).tape.trans (grown_setCells _ g _ X3).tape), by rw [HW.out]; exact ((grown_setCells _ g _ Z).output.trans (grown_setCells _ g _ X3).output)⟩⟩

/-! ### Xi -/
/-! ### Vh -/
theorem Szs.small {p : Wv Kp2} (h : Szs p) : SmallV p :=
  ⟨by have := h.ks; omega, fun k hk => by have := (h.kd k hk).2.1; omega, by have := h.gs; omega, by have := h.its; omega, fun t ht => by have := (h.it t ht).1; omega, fun t ht c hc => by have := (h.it t ht).2 c hc; omega⟩
/-- Where block hb is a history: its world, and what else it holds. -/
def HsB (w : World) (hb : Nat) (x : Wd) (R1 R2 : Value) : Prop := Bk w hb 263 #[.slice x.kA x.kn x.kc, .slice x.gA x.gn x.gc, .slice x.iA x.im x.ic, R1, R2]

set_option maxHeartbeats 4000000 in
theorem new82_any (x : Wd) (B : Nat) (w : World) (hx : WdOk w B x) (hB : B ≤ w.heap.size) (gx : Szs x.p) (hc : wcheckF x.p = 0) :
    Calls Try.prog 82 #[.agg #[.slice x.kA x.kn x.kc, .slice x.gA x.gn x.gc, .slice x.iA x.im x.ic]] w fun e w' => ∃ (hb : Nat) (y : Wd), e = .returned (.tuple #[.pointer (some ⟨hb, 0, none⟩), .int .i64 0]) ∧ Hid (HsB w' hb y (.slice none 0 0) (.slice none 0 0) ∧ WdY w' 0 y ∧ y.p = x.p ∧ w.heap.size ≤ hb) ∧ Below w.heap.size w w' := by
  have HC := Lib.hid (fun (wz : World) (hb : Below w.heap.size w wz) => wcheck_any (hx.below (hb.mono hB)))
  have HCP := Lib.hid (fun (wz : World) (hb : Below w.heap.size w wz) => wcopy_any (hx.below (hb.mono hB)) gx.small)
  obtain ⟨p1, hp1⟩ : ∃ p, p = x.p := ⟨_, rfl⟩
  rw [← hp1] at HC HCP hc ⊢
  obtain ⟨kA, kn, kc, ks, gA, gn, gc, gens, iA, im, ic, its⟩ := x
  unfold Wd.v at HC HCP
  dsimp only at HC HCP ⊢
  rw [hc] at HC
  clear hx gx hp1 hc
  obtain ⟨W0, hW0⟩ : ∃ W0, W0 = w.alloc (.cells #[.slice kA kn kc, .slice gA gn gc, .slice iA im ic] 52) := ⟨_, rfl⟩
  have hb0 : Below w.heap.size w W0 := by rw [hW0]; exact Below.al (Below.refl _ _) _
  have HX : Hid (Bk W0 w.heap.size 52 #[.slice kA kn kc, .slice gA gn gc, .slice iA im ic]) := Lib.hid (by rw [hW0]; exact Bk.new _ _ _)
  have a0 : W0.cell? ⟨w.heap.size, 0, none⟩ = some (.slice kA kn kc) := HX.out.cell 0
  have a1 : W0.cell? ⟨w.heap.size, 1, none⟩ = some (.slice gA gn gc) := HX.out.cell 1
  have a2 : W0.cell? ⟨w.heap.size, 2, none⟩ = some (.slice iA im ic) := HX.out.cell 2
  have H1 := Lib.hid (HC.out W0 hb0)
  have HB0 := Lib.hid hb0
  clear HC hb0
  go_enter Try.func82, Try.ntmps82
  go_upto_region 1 with fail
  rw [← hW0]
  clear hW0
  go_wp2_with fail
  with_reducible refine (H1.out).mono ?_
  clear H1
  rintro e w1 ⟨rfl, hb1⟩
  have hbw1 : Below w.heap.size w w1 := HB0.out.trans (hb1.mono HB0.out.size)
  have hx1 := HX.out.below hb1 HX.out.lt
  have d0 : w1.cell? ⟨w.heap.size, 0, none⟩ = some (.slice kA kn kc) := hx1.cell 0
  have d1 : w1.cell? ⟨w.heap.size, 1, none⟩ = some (.slice gA gn gc) := hx1.cell 1
  have d2 : w1.cell? ⟨w.heap.size, 2, none⟩ = some (.slice iA im ic) := hx1.cell 2
  have H2 := Lib.hid (HCP.out w1 hbw1)
  have HBW1 := Lib.hid hbw1
  clear hb1 hbw1 hx1 HCP
  go_wp2_with fail
  with_reducible refine (H2.out).mono ?_
  clear H2
  rintro e w2 ⟨y, rfl, hy, hyp, hb2⟩
  obtain ⟨kA, kn, kc, ks, gA, gn, gc, gens, iA, im, ic, its⟩ := y
  (try unfold Wd.v)
  dsimp only
  have hz1 : w.heap.size ≤ w1.heap.size := HBW1.out.size
  have hz2 : w1.heap.size ≤ w2.heap.size := hb2.size
  have HY := Lib.hid (And.intro hy hyp)
  have HB2 := Lib.hid hb2
  clear hy hyp hb2
  go_wp2_with fail
  go_ret2
  exact ⟨w2.heap.size, ⟨kA, kn, kc, ks, gA, gn, gc, gens, iA, im, ic, its⟩, rfl, Lib.hid ⟨Bk.new w2 263 _, HY.out.1.keep ((Kx.refl (B := 0) (F := [])).alloc _) (by simp) (by simp) (by simp) (by simp) (by simp), HY.out.2, by omega⟩, (HBW1.out.trans (HB2.out.mono hz1)).alloc (by omega) _⟩

set_option maxHeartbeats 4000000 in
theorem now_any (hb : Nat) (x : Wd) (R1 R2 : Value) (w : World) (hk : HsB w hb x R1 R2) (hx : WdY w 0 x) (gx : Szs x.p) :
    Calls Try.prog 86 #[.pointer (some ⟨hb, 0, none⟩)] w fun e w' => ∃ y : Wd, e = .returned (.agg #[.slice y.kA y.kn y.kc, .slice y.gA y.gn y.gc, .slice y.iA y.im y.ic]) ∧ Hid (WdY w' 0 y ∧ y.p = x.p) ∧ Below w.heap.size w w' := by
  have HCP := Lib.hid (fun (wz : World) (hb : Below w.heap.size w wz) => wcopy_any (hx.ok_.below hb) gx.small)
  obtain ⟨p1, hp1⟩ : ∃ p, p = x.p := ⟨_, rfl⟩
  rw [← hp1] at HCP ⊢
  obtain ⟨kA, kn, kc, ks, gA, gn, gc, gens, iA, im, ic, its⟩ := x
  unfold Wd.v at HCP
  dsimp only at HCP ⊢
  have HK := Lib.hid hk
  clear hx gx hp1 hk
  obtain ⟨W0, hW0⟩ : ∃ W0, W0 = w.alloc (.cells #[.slice none 0 0, .slice none 0 0, .slice none 0 0] 52) := ⟨_, rfl⟩
  have hb0 : Below w.heap.size w W0 := by rw [hW0]; exact Below.al (Below.refl _ _) _
  have HX : Hid (Bk W0 w.heap.size 52 #[.slice none 0 0, .slice none 0 0, .slice none 0 0]) := Lib.hid (by rw [hW0]; exact Bk.new _ _ _)
  have hk0 : HsB W0 hb ⟨kA, kn, kc, ks, gA, gn, gc, gens, iA, im, ic, its⟩ R1 R2 := Bk.below HK.out hb0 (Bk.lt HK.out)
  have a0 : W0.cell? ⟨hb, 0, none⟩ = some (.slice kA kn kc) := Bk.cell hk0 0
  have a1 : W0.cell? ⟨hb, 1, none⟩ = some (.slice gA gn gc) := Bk.cell hk0 1
  have a2 : W0.cell? ⟨hb, 2, none⟩ = some (.slice iA im ic) := Bk.cell hk0 2
  have H1 := Lib.hid (HCP.out W0 hb0)
  have HB0 := Lib.hid hb0
  clear HCP hb0 hk0
  go_enter Try.func86, Try.ntmps86
  go_upto_region 1 with fail
  rw [← hW0]
  clear hW0
  go_wp2_with fail
  with_reducible refine (H1.out).mono ?_
  clear H1
  rintro e w2 ⟨y, rfl, hy, hyp, hb2⟩
  obtain ⟨kA, kn, kc, ks, gA, gn, gc, gens, iA, im, ic, its⟩ := y
  (try unfold Wd.v)
  dsimp only
  have hx2 := HX.out.below hb2 HX.out.lt
  have m0 : w2.cell? ⟨w.heap.size, 0, none⟩ = some (.slice none 0 0) := hx2.cell 0
  have m1 : w2.cell? ⟨w.heap.size, 1, none⟩ = some (.slice none 0 0) := hx2.cell 1
  have m2 : w2.cell? ⟨w.heap.size, 2, none⟩ = some (.slice none 0 0) := hx2.cell 2
  have f0 := hx2.frozen 0
  have f1 := hx2.frozen 1
  have f2 := hx2.frozen 2
  have hz1 : w.heap.size ≤ W0.heap.size := HB0.out.size
  have HX2 := Lib.hid hx2
  have HY := Lib.hid (And.intro hy hyp)
  have HB2 := Lib.hid hb2
  clear hy hyp hb2 hx2
  go_wp2_with fail
  (try simp only [Exit.inBlock, Exit.then])
  have z1 := HX2.out.set_ 0 (Value.slice kA kn kc)
  have z2 := z1.set_ 1 (Value.slice gA gn gc)
  have hK0 := (((Kx.refl (B := 0) (F := [52])).set HX2.out (Nat.zero_le _) (by simp) 0 (Value.slice kA kn kc)).set z1 (Nat.zero_le _) (by simp) 1 (Value.slice gA gn gc)).set z2 (Nat.zero_le _) (by simp) 2 (Value.slice iA im ic)
  have hq : ∀ i : Nat, w.heap.size ≤ (⟨w.heap.size, i, none⟩ : Addr).block := fun i => Nat.le_refl _
  refine bodyPost_ret (v := .agg #[.slice kA kn kc, .slice gA gn gc, .slice iA im ic]) ?_ rfl ⟨⟨kA, kn, kc, ks, gA, gn, gc, gens, iA, im, ic, its⟩, rfl, Lib.hid ⟨HY.out.1.keep hK0 (by decide) (by decide) (by decide) (by decide) (by decide), HY.out.2⟩, (((HB0.out.trans (HB2.out.mono hz1)).setCell (hq 0) _).setCell (hq 1) _).setCell (hq 2) _⟩
  rw [results_c1 rfl]
  go_simp

set_option maxHeartbeats 4000000 in
theorem turn_any (hb : Nat) (x : Wd) (q : Wv Kp2) (R1 R2 : Value) (D : Option Addr) (dn dc : Nat) (w : World) (hk : HsB w hb x R1 R2) (hx : WdY w 0 x) (gx : GoodW x.p) (gq : GoodW q) (hok : encOk (FW x.p) (FW q)) (hd : RdY w 0 5 1 D dn (bytesV (encD x.p q))) (hdn : dn = (encD x.p q).length) :
    Calls Try.prog 160 #[.pointer (some ⟨hb, 0, none⟩), .slice D dn dc] w fun e w' => ∃ y : Wd, e = .returned (.int .i64 0) ∧ Hid (HsB w' hb y R1 R2 ∧ WdY w' 0 y ∧ y.p = q) ∧ w.grownBy w' (some hb) := by
  have HA := Lib.hid (apply_any x q D dn dc w.heap.size w hx.ok_ (Nat.le_refl _) gx gq hok hd.rd hdn)
  obtain ⟨kA, kn, kc, ks, gA, gn, gc, gens, iA, im, ic, its⟩ := x
  dsimp only at HA
  have a0 : w.cell? ⟨hb, 0, none⟩ = some (.slice kA kn kc) := Bk.cell hk 0
  have a1 : w.cell? ⟨hb, 1, none⟩ = some (.slice gA gn gc) := Bk.cell hk 1
  have a2 : w.cell? ⟨hb, 2, none⟩ = some (.slice iA im ic) := Bk.cell hk 2
  have HK := Lib.hid hk
  clear hx gx gq hok hd hdn hk
  go_enter Try.func160, Try.ntmps160
  go_wp2_with fail
  with_reducible refine (HA.out).mono ?_
  clear HA
  rintro e w2 ⟨y, rfl, HY, hb2⟩
  obtain ⟨kA', kn', kc', ks', gA', gn', gc', gens', iA', im', ic', its'⟩ := y
  dsimp only
  have hbl : hb < w.heap.size := Bk.lt HK.out
  have hk2 : HsB w2 hb ⟨kA, kn, kc, ks, gA, gn, gc, gens, iA, im, ic, its⟩ R1 R2 := Bk.below HK.out hb2 hbl
  obtain ⟨W3, hW3⟩ : ∃ W3, W3 = w2.alloc (.cells #[.int .i64 0, .slice kA' kn' kc', .slice gA' gn' gc', .slice iA' im' ic', .slice none 0 0, .slice none 0 0, .slice none 0 0] 80) := ⟨_, rfl⟩
  have hb3 : Below w.heap.size w W3 := by rw [hW3]; exact hb2.alloc hb2.size _
  have hk3 : Bk W3 hb 263 #[.slice kA kn kc, .slice gA gn gc, .slice iA im ic, R1, R2] := by rw [hW3]; exact Bk.alloc hk2 _
  have hx3 : Bk W3 w2.heap.size 80 #[.int .i64 0, .slice kA' kn' kc', .slice gA' gn' gc', .slice iA' im' ic', .slice none 0 0, .slice none 0 0, .slice none 0 0] := by rw [hW3]; exact Bk.new _ _ _
  have b1 : W3.cell? ⟨w2.heap.size, 1, none⟩ = some (.slice kA' kn' kc') := hx3.cell 1
  have b2 : W3.cell? ⟨w2.heap.size, 2, none⟩ = some (.slice gA' gn' gc') := hx3.cell 2
  have b3 : W3.cell? ⟨w2.heap.size, 3, none⟩ = some (.slice iA' im' ic') := hx3.cell 3
  have m0 : W3.cell? ⟨hb, 0, none⟩ = some (.slice kA kn kc) := hk3.cell 0
  have m1 : W3.cell? ⟨hb, 1, none⟩ = some (.slice gA gn gc) := hk3.cell 1
  have m2 : W3.cell? ⟨hb, 2, none⟩ = some (.slice iA im ic) := hk3.cell 2
  have f0 := hk3.frozen 0
  have f1 := hk3.frozen 1
  have f2 := hk3.frozen 2
  have HY3 : Hid (WdY W3 0 ⟨kA', kn', kc', ks', gA', gn', gc', gens', iA', im', ic', its'⟩ ∧ (⟨kA', kn', kc', ks', gA', gn', gc', gens', iA', im', ic', its'⟩ : Wd).p = q) := Lib.hid ⟨by rw [hW3]; exact HY.out.1.keep ((Kx.refl (B := 0) (F := [])).alloc _) (by simp) (by simp) (by simp) (by simp) (by simp), HY.out.2⟩
  have HK3 := Lib.hid hk3
  have HB3 := Lib.hid hb3
  have HW3 := Lib.hid hW3
  clear hk2 hk3 hx3 hb3 hb2 HY hW3
  go_upto_region 2 with fail
  rw [← HW3.out]
  clear HW3
  go_wp2_with fail
  go_ret
  have z1 := HK3.out.set_ 0 (Value.slice kA' kn' kc')
  have z2 := z1.set_ 1 (Value.slice gA' gn' gc')
  have hK0 := (((Kx.refl (B := 0) (F := [263])).set HK3.out (Nat.zero_le _) (by simp) 0 (Value.slice kA' kn' kc')).set z1 (Nat.zero_le _) (by simp) 1 (Value.slice gA' gn' gc')).set z2 (Nat.zero_le _) (by simp) 2 (Value.slice iA' im' ic')
  exact ⟨⟨kA', kn', kc', ks', gA', gn', gc', gens', iA', im', ic', its'⟩, rfl, Lib.hid ⟨z2.set_ 2 _, HY3.out.1.keep hK0 (by decide) (by decide) (by decide) (by decide) (by decide), HY3.out.2⟩, Gb.set_ (Gb.set_ (Gb.set_ ⟨HB3.out.os, HB3.out.tape, HB3.out.output, HB3.out.size, fun i hi _ => HB3.out.block i hi⟩ 0 _) 1 _) 2 _⟩

/-! ### Vi -/
theorem T.infoSt : (Try.prog.info? 265).map (fun i => (i.zero, i.size, i.bytes)) = some (some (.agg #[.string ByteArray.empty, .slice none 0 0, .slice none 0 0]), 3, 64) := by kernel_rfl
def stCs (l : List StM) : List Value := l.flatMap StM.cs
theorem stCs_app (a b : List StM) : stCs (a ++ b) = stCs a ++ stCs b := by simp [stCs]
theorem stCs_one (s : StM) : stCs [s] = [.string s.nm, .slice s.oA s.on s.oc, .slice s.bA s.bn s.bc] := by simp [stCs, StM.cs]
theorem stCs_length (l : List StM) : (stCs l).length = l.length * 3 := by
  induction l with
  | nil => rfl
  | cons a l ih => rw [show stCs (a :: l) = StM.cs a ++ stCs l by simp [stCs], List.length_append, ih, List.length_cons]; simp [StM.cs]; omega
/-- A row of steps: full, or the history's own. -/
structure RowM (w : World) (base : Nat) (A : Option Addr) (n c : Nat) (D : List StM) : Prop where
  rd : RdY w 0 265 3 A n (stCs D)
  len : n = D.length
  cap : n ≤ c
  cap2 : c ≤ 9223372036854775807
  mode : (c = n ∧ (A = none → n = 0)) ∨ OwnO w base 265 3 A n c (stCs D)
  sts : ∀ s ∈ D, StY w s
  ty : ∀ q, (Value.slice A n c).ownBlock = some q → base ≤ q ∧ ∃ cs, Bk w q 265 cs
structure HistY (w : World) (hb base : Nat) (x : Wd) (dA : Option Addr) (dn dc : Nat) (D : List StM) (gA : Option Addr) (gn gc : Nat) (G : List StM) : Prop where
  bk : HsB w hb x (.slice dA dn dc) (.slice gA gn gc)
  x : WdY w 0 x
  d : RowM w base dA dn dc D
  g : RowM w base gA gn gc G
  ne : ∀ q, (Value.slice dA dn dc).ownBlock = some q → (Value.slice gA gn gc).ownBlock ≠ some q
  lo : base ≤ hb
/-- What a history's methods leave of the rest of the world. -/
structure Kz (B : Nat) (w w' : World) : Prop where
  os : w'.os = w.os
  tape : w'.tape = w.tape
  output : w'.output = w.output
  kx : Kx B [263, 265] w w'
theorem Kz.refl {B : Nat} {w : World} : Kz B w w := ⟨rfl, rfl, rfl, Kx.refl⟩
theorem Kz.trans {B : Nat} {a b c : World} (h : Kz B a b) (k : Kz B b c) : Kz B a c := ⟨k.os.trans h.os, k.tape.trans h.tape, k.output.trans h.output, h.kx.trans k.kx⟩
theorem Kz.below {B : Nat} {a b c : World} (h : Kz B a b) (k : Below b.heap.size b c) : Kz B a c := ⟨k.os.trans h.os, k.tape.trans h.tape, k.output.trans h.output, h.kx.below k⟩
theorem Kz.toBelow {B : Nat} {a b : World} (h : Kz B a b) (hB : B ≤ a.heap.size) : Below B a b := ⟨h.os, h.tape, h.output, h.kx.size, fun k hk => h.kx.low k hk (by omega)⟩
theorem Kx.gb {B hb : Nat} {t : TypeId} {cs : Array Value} {w w' : World} (h : w.grownBy w' (some hb)) (hk : Bk w hb t cs) (hB : B ≤ hb) : Kx B [t] w w' :=
  ⟨h.size, fun b h1 h2 => h.block b h2 (fun e => by injection e with e; omega), fun b t' cs' h1 h2 => h1.grown h (fun e => by
    injection e with e
    subst e
    exact Bk.ne_ h1 hk (fun e => h2 (by rw [e]; simp)) rfl)⟩
theorem StY.keep {w w' : World} {F : List TypeId} {s : StM} (h : StY w s) (hq : Kx 0 F w w') (h5 : (5 : TypeId) ∉ F) : StY w' s := ⟨h.o.keep hq h5, h.on, h.b.keep hq h5, h.bn⟩
theorem RowM.keep {w w' : World} {base n c : Nat} {A : Option Addr} {D : List StM} {F : List TypeId} (h : RowM w base A n c D) (hq : Kx 0 F w w') (h5 : (5 : TypeId) ∉ F) (h265 : (265 : TypeId) ∉ F) : RowM w' base A n c D :=
  ⟨h.rd.keep hq h265, h.len, h.cap, h.cap2, h.mode.imp id fun h => h.keep hq h265, fun s hs => (h.sts s hs).keep hq h5, fun q hb => by obtain ⟨h0, cs, h1⟩ := h.ty q hb; exact ⟨h0, cs, hq.bk h1 h265⟩⟩
/-- Where another row has grown, this one stands. -/
theorem RowM.far {w w' : World} {base n c : Nat} {A : Option Addr} {D : List StM} {r : Option Nat} (h : RowM w base A n c D) (hg : w.grownBy w' r) (hne : ∀ q, (Value.slice A n c).ownBlock = some q → r ≠ some q) (hs : ∀ s ∈ D, StY w' s) : RowM w' base A n c D := by
  refine ⟨⟨h.rd.1, fun hn => ?_⟩, h.len, h.cap, h.cap2, h.mode.imp id fun h1 => h1.frame fun q hq => hg.block q (by obtain ⟨_, cs, h9⟩ := h1.ty q hq; exact h9.lt) (fun e => hne q hq e.symm), hs, fun q hq => by obtain ⟨h0, cs, h1⟩ := h.ty q hq; exact ⟨h0, cs, h1.grown hg (fun e => hne q hq e.symm)⟩⟩
  obtain ⟨b, o, h1, h2, h3, h4⟩ := h.rd.2 hn
  subst h1
  have hb := hg.block b h2 (fun e => hne b rfl e.symm)
  exact ⟨b, o, rfl, Nat.lt_of_lt_of_le h2 hg.size, h3.imp id fun ⟨cs, h5⟩ => ⟨cs, hb.trans h5⟩, fun j u hu => (World.cell?_of_block (w := w) hb).trans (h4 j u hu)⟩
theorem RowM.own {w : World} {base n c : Nat} {A : Option Addr} {D : List StM} (h : OwnO w base 265 3 A n c (stCs D)) (hn : n = D.length) (hs : ∀ s ∈ D, StY w s) : RowM w base A n c D :=
  ⟨h.rdy, hn, h.caps.1, h.caps.2, .inr h, hs, h.ty⟩
/-- The first steps, full. -/
theorem RowM.head {w : World} {base n c m : Nat} {A : Option Addr} {D E : List StM} (h : RowM w base A n c (D ++ E)) (hm : m = D.length) : RowM w base A m m D := by
  have hl : n = D.length + E.length := by have := h.len; rw [List.length_append] at this; exact this
  refine ⟨⟨by rw [stCs_length, hm], fun hn => ?_⟩, hm, Nat.le_refl _, by have := h.cap; have := h.cap2; omega, .inl ⟨rfl, fun e => ?_⟩, fun x hx => h.sts x (List.mem_append_left _ hx), fun q hq => h.ty q (by cases A <;> exact hq)⟩
  · obtain ⟨b, o, h1, h2, h3, h4⟩ := h.rd.2 (by omega)
    refine ⟨b, o, h1, h2, h3, fun j u hu => h4 j u ?_⟩
    have hj := (List.getElem?_eq_some_iff.1 hu).1
    rw [stCs_app, List.getElem?_append_left hj]; exact hu
  · rcases Nat.eq_zero_or_pos m with h0 | h0
    · exact h0
    · obtain ⟨b, o, h1, _⟩ := h.rd.2 (by omega)
      rw [e] at h1; cases h1
/-- Step j's cells. -/
theorem RowM.at_ {w : World} {base n c j : Nat} {A : Option Addr} {D : List StM} {s : StM} (h : RowM w base A n c D) (hj : D[j]? = some s) : ∃ b o, A = some ⟨b, o, none⟩ ∧ b < w.heap.size ∧ w.cell? ⟨b, o + j * 3, none⟩ = some (.string s.nm) ∧ w.cell? ⟨b, o + j * 3 + 1, none⟩ = some (.slice s.oA s.on s.oc) ∧ w.cell? ⟨b, o + j * 3 + 2, none⟩ = some (.slice s.bA s.bn s.bc) := by
  have hlt := (List.getElem?_eq_some_iff.1 hj).1
  have hl := h.len
  obtain ⟨b, o, h1, h2, h3, h4⟩ := h.rd.2 (by omega)
  have hD : D = D.take j ++ (s :: D.drop (j + 1)) := by
    rw [List.getElem?_eq_getElem hlt] at hj
    injection hj with hj
    rw [← hj, ← List.drop_eq_getElem_cons hlt, List.take_append_drop]
  have hg : ∀ k u, [Value.string s.nm, .slice s.oA s.on s.oc, .slice s.bA s.bn s.bc][k]? = some u → (stCs D)[j * 3 + k]? = some u := fun k u hu => by
    have hk := (List.getElem?_eq_some_iff.1 hu).1
    have hlt3 : (stCs (D.take j)).length = j * 3 := by rw [stCs_length, List.length_take, Nat.min_eq_left (by omega)]
    rw [hD, stCs_app, List.getElem?_append_right (by rw [hlt3]; omega), hlt3, Nat.add_sub_cancel_left, show stCs (s :: D.drop (j + 1)) = stCs [s] ++ stCs (D.drop (j + 1)) by rw [← stCs_app]; rfl, stCs_one, List.getElem?_append_left hk]; exact hu
  exact ⟨b, o, h1, h2, h4 (j * 3) _ (hg 0 _ rfl), by rw [Nat.add_assoc]; exact h4 (j * 3 + 1) _ (hg 1 _ rfl), by rw [Nat.add_assoc]; exact h4 (j * 3 + 2) _ (hg 2 _ rfl)⟩
/-- All but the last step, full. -/
theorem RowM.cut {w : World} {base n c : Nat} {A : Option Addr} {D : List StM} {s : StM} (h : RowM w base A (n + 1) c (D ++ [s])) : RowM w base A n n D := by
  have hl : n = D.length := by have := h.len; rw [List.length_append] at this; simpa using this
  refine ⟨⟨by rw [stCs_length, hl], fun hn => ?_⟩, hl, Nat.le_refl _, by have := h.cap; have := h.cap2; omega, .inl ⟨rfl, fun e => ?_⟩, fun x hx => h.sts x (List.mem_append_left _ hx), fun q hq => h.ty q (by cases A <;> exact hq)⟩
  · obtain ⟨b, o, h1, h2, h3, h4⟩ := h.rd.2 (by omega)
    refine ⟨b, o, h1, h2, h3, fun j u hu => h4 j u ?_⟩
    have hj := (List.getElem?_eq_some_iff.1 hu).1
    rw [stCs_app, List.getElem?_append_left hj]; exact hu
  · obtain ⟨b, o, h1, _⟩ := h.rd.2 (by omega)
    rw [e] at h1; cases h1
/-- The last step's cells. -/
theorem RowM.last {w : World} {base n c : Nat} {A : Option Addr} {D : List StM} {s : StM} (h : RowM w base A (n + 1) c (D ++ [s])) : ∃ b o, A = some ⟨b, o, none⟩ ∧ b < w.heap.size ∧ w.cell? ⟨b, o + n * 3, none⟩ = some (.string s.nm) ∧ w.cell? ⟨b, o + n * 3 + 1, none⟩ = some (.slice s.oA s.on s.oc) ∧ w.cell? ⟨b, o + n * 3 + 2, none⟩ = some (.slice s.bA s.bn s.bc) := by
  have hl : n = D.length := by have := h.len; rw [List.length_append] at this; simpa using this
  obtain ⟨b, o, h1, h2, h3, h4⟩ := h.rd.2 (by omega)
  have hg : ∀ j u, [Value.string s.nm, .slice s.oA s.on s.oc, .slice s.bA s.bn s.bc][j]? = some u → (stCs (D ++ [s]))[n * 3 + j]? = some u := fun j u hu => by
    rw [stCs_app, List.getElem?_append_right (by rw [stCs_length, hl]; omega), stCs_length, stCs_one, hl, Nat.add_sub_cancel_left]; exact hu
  exact ⟨b, o, h1, h2, h4 (n * 3) _ (hg 0 _ rfl), by rw [Nat.add_assoc]; exact h4 (n * 3 + 1) _ (hg 1 _ rfl), by rw [Nat.add_assoc]; exact h4 (n * 3 + 2) _ (hg 2 _ rfl)⟩

theorem opw_append_st {o : Oper} {a : Act} {w : World} {K : Act → World → Prop} {Q : Exit → Act → World → Prop} {base n c b c1 : Nat} {A : Option Addr} {D : List StM} {cs : Array Value} (hgd : o.guard = none) (s x : Operand)
    (ho : o.op = .call { callee := .builtin .append, args := #[s, x], argTypes := #[261, 261] }) (hr : RowM w base A n c D) (hs : a.eval s = .slice A n c) (hx : a.eval x = .slice (some ⟨b, 0, none⟩) 1 c1) (hb : Bk w b 265 cs) (hcs : cs.size = 3) (h1 : ∀ u ∈ cs.toList, u.oneCell' = true)
    (hsm : n < 1000000) (hbase : base ≤ w.heap.size)
    (h : ∀ g' o' c' w', OwnO w' base 265 3 (some ⟨g', o', none⟩) (n + 1) c' (stCs D ++ cs.toList) → w.grownBy w' (Value.slice A n c).ownBlock → ((Value.slice A n c).ownBlock = some g' ∨ w.heap.size ≤ g') → K (a.put o.dst (.slice (some ⟨g', o', none⟩) (n + 1) c')) w') : Oper.wp Try.prog o a w K Q := by
  obtain ⟨iS, hi, hz0, hz1, hz2⟩ := info_parts T.infoSt
  exact opw_append_g hgd s x ho Try.underlying261 hi hz0 hz1 hz2 rfl (by decide) (by omega) hr.rd hr.mode hs hx hb hcs h1 hsm hbase h
theorem HistY.keepx {w w' : World} {hb base dn dc gn gc : Nat} {x : Wd} {dA gA : Option Addr} {D G : List StM} {F : List TypeId} (h : HistY w hb base x dA dn dc D gA gn gc G) (hq : Kx 0 F w w') (h3 : (3 : TypeId) ∉ F) (h166 : (166 : TypeId) ∉ F) (h147 : (147 : TypeId) ∉ F) (h66 : (66 : TypeId) ∉ F) (h63 : (63 : TypeId) ∉ F) (h5 : (5 : TypeId) ∉ F) (h263 : (263 : TypeId) ∉ F) (h265 : (265 : TypeId) ∉ F) : HistY w' hb base x dA dn dc D gA gn gc G :=
  ⟨hq.bk h.bk h263, h.x.keep hq h3 h166 h147 h66 h63, h.d.keep hq h5 h265, h.g.keep hq h5 h265, h.ne, h.lo⟩
theorem HistY.below {w w' : World} {hb base dn dc gn gc : Nat} {x : Wd} {dA gA : Option Addr} {D G : List StM} (h : HistY w hb base x dA dn dc D gA gn gc G) (hq : Below w.heap.size w w') : HistY w' hb base x dA dn dc D gA gn gc G :=
  h.keepx (F := []) (Kx.of_below hq) (by simp) (by simp) (by simp) (by simp) (by simp) (by simp) (by simp) (by simp)

/-! ### Xk -/
theorem i64r_app {a b : List Int} (ha : i64r a) (hb : i64r b) : i64r (a ++ b) := fun x hx => (List.mem_append.1 hx).elim (ha x) (hb x)
theorem i64r_flat {α : Type} {f : α → List Int} {l : List α} (h : ∀ a ∈ l, i64r (f a)) : i64r (l.flatMap f) := fun x hx => by
  obtain ⟨a, ha, hx⟩ := List.mem_flatMap.1 hx
  exact h a ha x hx
theorem i64r_nil : i64r [] := fun x hx => by cases hx
theorem i64r_cons {x : Int} {l : List Int} (h1 : -9223372036854775808 ≤ x) (h2 : x ≤ 9223372036854775807) (h : i64r l) : i64r (x :: l) := fun y hy => by
  rcases List.mem_cons.1 hy with e | hy
  · subst e; exact ⟨h1, h2⟩
  · exact h y hy
theorem i64r_text {s : ByteArray} (h : s.size ≤ 1000) : i64r (textF s) :=
  i64r_cons (by omega) (by omega) fun x hx => by have := byteL_rng s x hx; omega
theorem name_size {s : ByteArray} (h : nameF s = true) : s.size ≤ 16 := by
  rcases Nat.lt_or_ge 16 s.size with h1 | h1
  · rw [nameF_big h1] at h; cases h
  · exact h1
theorem field_nm {f : Fd} (h : fieldF f = 0) : f.nm.size ≤ 16 := by
  unfold fieldF at h
  split at h
  · rename_i h2; exact name_size h2.1
  · cases h
theorem one_nm {nm : ByteArray} {fds : List Fd} (h : oneF nm fds = 0) : nm.size ≤ 16 := by
  unfold oneF at h
  split at h
  · cases h
  · rename_i h1
    exact name_size (by simpa using h1)
theorem near_bnd {f : Fd} {v : Int} (h : fieldF f = 0) (hv : nearF f v = v) : -4294967296 ≤ v ∧ v ≤ 12884901888 := by
  obtain ⟨h1, h2, h3, h4⟩ := field_ok h
  unfold nearF highF at hv
  rw [if_pos h, if_pos h] at hv
  have hp := pow2_32 f.bits.toNat (by omega)
  have hp1 := pow2_one f.bits.toNat
  omega
theorem goodW_of {p : Wv Kp2} (h0 : checkF p.ks = 0) (h : VW holdK p) : GoodW p := by
  obtain ⟨h1, h2⟩ := check_len h0
  have hm := h.many
  have hl := h.its_len
  have hcm : ∀ t ∈ p.its, t.2.length ≤ 16 := fun t ht => by have := ((h.ok t ht).2.2).len_le; omega
  have hval : ∀ t ∈ p.its, ∀ c ∈ t.2, (0 ≤ c.1 ∧ c.1 < 16) ∧ c.2.length ≤ 8 ∧ i64r c.2 := fun t ht c hc => by
    obtain ⟨k, d, e1, e2, e⟩ := (h.ok t ht).2.2.ok c hc
    have hk := (List.getElem?_eq_some_iff.1 e2).1
    obtain ⟨g1, g2, g3⟩ := holdK_iff.1 e
    refine ⟨by omega, holdK_small e, fun x hx => ?_⟩
    obtain ⟨i, hi, rfl⟩ := List.getElem_of_mem hx
    have hf : d.2[i]? = some d.2[i] := List.getElem?_eq_getElem (by omega)
    have := g3 i _ hf
    have hgd : c.2.getD i 0 = c.2[i] := by simp [List.getD, List.getElem?_eq_getElem hi]
    rw [hgd] at this
    have := near_bnd (one_ok g1 (List.mem_of_getElem? hf)) this
    omega
  have hit : ∀ t ∈ p.its, (0 ≤ t.1.1 ∧ t.1.1 < 256) ∧ 0 ≤ t.1.2 ∧ t.1.2 ≤ 1073741824 := fun t ht => by
    obtain ⟨⟨n, e1, e2⟩, _⟩ := h.ok t ht
    have hn := (List.getElem?_eq_some_iff.1 e2).1
    have hg := h.gens _ (List.mem_of_getElem? e2)
    exact ⟨by omega, hg⟩
  have hs : Szs p := ⟨h1, fun k hk => ⟨one_nm (h2 k hk), oneF_len (h2 k hk), fun f hf => field_nm (one_ok (h2 k hk) hf)⟩, hm, by omega, fun t ht => ⟨hcm t ht, fun c hc => (hval t ht c hc).2.1⟩⟩
  refine ⟨hs, ⟨fun z hz => by have := h.gens z hz; exact wf_i64 (by omega) (by omega), fun t ht => ⟨by have := (hit t ht).1; exact wf_i64 (by omega) (by omega), by have := (hit t ht).2; exact wf_i64 (by omega) (by omega), fun c hc => by have := (hval t ht c hc).1; exact wf_i64 (by omega) (by omega)⟩⟩, ?_⟩
  unfold flatN flatB flatA
  refine i64r_app (i64r_app (i64r_app (i64r_app (i64r_app (i64r_app (i64r_app (i64r_app (i64r_cons (by omega) (by omega) (i64r_cons (by omega) (by omega) i64r_nil)) (i64r_flat fun k hk => ?_)) (i64r_cons (by omega) (by omega) i64r_nil)) (fun z hz => by have := h.gens z hz; omega)) (i64r_cons (by omega) (by omega) i64r_nil)) (i64r_flat fun t ht => ?_)) (i64r_cons (by omega) (by omega) i64r_nil)) (i64r_cons (by omega) (by omega) i64r_nil)) (i64r_cons (by omega) (by omega) i64r_nil)
  · have hk8 := oneF_len (h2 k hk)
    exact i64r_app (i64r_app (i64r_text (by have := one_nm (h2 k hk); omega)) (i64r_cons (by omega) (by omega) i64r_nil)) (i64r_flat fun f hf => by
      have hf0 := one_ok (h2 k hk) hf
      obtain ⟨f1, f2, f3, f4⟩ := field_ok hf0
      exact i64r_app (i64r_text (by have := field_nm hf0; omega)) (i64r_cons (by omega) (by omega) (i64r_cons (by omega) (by omega) i64r_nil)))
  · have a1 := hit t ht
    have a2 := hcm t ht
    exact i64r_app (i64r_cons (by omega) (by omega) (i64r_cons (by omega) (by omega) (i64r_cons (by omega) (by omega) i64r_nil))) (i64r_flat fun c hc => by
      obtain ⟨b1, b2, b3⟩ := hval t ht c hc
      exact i64r_app (i64r_cons (by omega) (by omega) (i64r_cons (by omega) (by omega) i64r_nil)) b3)

theorem ndR_le (a : List Int) : ∀ (r : List Int) (k : Nat), ndR a r k ≤ r.length := by
  intro r
  induction r with
  | nil => intro k; exact Nat.le_refl _
  | cons x r ih => intro k; rw [ndR, List.length_cons]; have := ih (k + 1); split <;> omega
theorem ndR_pre (a : List Int) : ∀ (P R : List Int) (k : Nat), a.drop k = P ++ a.drop (k + P.length) → ndR a (P ++ R) k ≤ R.length := by
  intro P
  induction P with
  | nil => intro R k _; exact ndR_le a R k
  | cons x P ih =>
    intro R k h
    have hx? : a[k]? = some x := by
      have := List.getElem?_drop (xs := a) (i := k) (j := 0)
      rw [h] at this
      simpa using this.symm
    have hx : x = bse a k := by simp [bse, List.getD, hx?]
    rw [List.cons_append, ndR, if_pos hx, Nat.zero_add]
    refine ih R (k + 1) ?_
    rw [← List.drop_drop, h, List.cons_append, List.drop_succ_cons, List.drop_zero, List.length_cons]
    congr 2; omega
theorem grp4 (v : Nat) (h : v ≤ 60000) : grp v ≤ 4 := by
  rcases Nat.lt_or_ge 4 (grp v) with h1 | h1
  · have h2 := grp_lo v (by omega)
    have h3 : 16 ^ 4 ≤ 16 ^ (grp v - 1) := Nat.pow_le_pow_right (by omega) (by omega)
    omega
  · exact h1
theorem encR_len4 (a : List Int) : ∀ (r : List Int) (k s : Nat), s ≤ k → k + r.length ≤ 60000 → (encR a r k s).length ≤ 20 + 100 * ndR a r k := by
  intro r
  induction r with
  | nil =>
    intro k s hs hk
    unfold encR
    split
    · rw [natB_length]; have := grp4 s (by simp at hk; omega); simp [ndR]; omega
    · simp
  | cons x r ih =>
    intro k s hs hk
    rw [List.length_cons] at hk
    unfold encR ndR
    split
    · have := ih (k + 1) (s + 1) (by omega) (by omega); omega
    · have := ih (k + 1) 0 (by omega) (by omega)
      have h1 := grp4 s (by omega)
      have hwr := wrap64_rng (x - bse a k)
      have h2 := (grp_le _ (zig_lt _ hwr.1 hwr.2)).2
      rw [List.length_append, List.length_append, natB_length, natB_length]; omega
theorem len_flat_le {α : Type} (f : α → List Int) (m : Nat) : ∀ l : List α, (∀ a ∈ l, (f a).length ≤ m) → (l.flatMap f).length ≤ l.length * m
  | [], _ => Nat.zero_le _
  | a :: r, h => by
    rw [List.flatMap_cons, List.length_append, List.length_cons, Nat.succ_mul]
    have h1 := h a (List.mem_cons_self ..)
    have h2 := len_flat_le f m r fun b hb => h b (List.mem_cons_of_mem _ hb)
    omega
theorem textF_len (s : ByteArray) : (textF s).length = s.size + 1 := by unfold textF; rw [List.length_cons, byteL_length]
/-- What follows the kinds. -/
def restN (p : Wv Kp2) : List Int := [(p.gens.length : Int)] ++ p.gens ++ [(p.its.length : Int)] ++ p.its.flatMap itN ++ [0] ++ [0] ++ [0]
theorem FW_split (p : Wv Kp2) : FW p = flatA 0 p ++ restN p := by simp [flatN, flatB, restN]
theorem flatA_len {p : Wv Kp2} (h : Szs p) : (flatA 0 p).length ≤ 2722 := by
  unfold flatA
  have h1 := len_flat_le kdN 170 p.ks fun k hk => by
    obtain ⟨a1, a2, a3⟩ := h.kd k hk
    have h2 := len_flat_le fdN 19 k.2 fun f hf => by have := a3 f hf; simp only [fdN, List.length_append, textF_len, List.length_cons, List.length_nil]; omega
    simp only [kdN, List.length_append, textF_len, List.length_cons, List.length_nil]
    omega
  have := h.ks
  simp only [List.length_append, List.length_cons, List.length_nil]
  omega
theorem restN_len {p : Wv Kp2} (h : Szs p) {m : Nat} (hg : p.gens.length ≤ m) (hi : p.its.length ≤ m) : (restN p).length ≤ 5 + m + m * 163 := by
  unfold restN
  have h1 := len_flat_le itN 163 p.its fun t ht => by
    obtain ⟨a1, a2⟩ := h.it t ht
    have h2 := len_flat_le cmN 10 t.2 fun c hc => by have := a2 c hc; simp only [cmN, List.length_append, List.length_cons, List.length_nil]; omega
    simp only [itN, List.length_append, List.length_cons, List.length_nil]
    omega
  have h3 : p.its.length * 163 ≤ m * 163 := Nat.mul_le_mul_right _ hi
  simp only [List.length_append, List.length_cons, List.length_nil]
  omega
theorem encOk_of {a b : Wv Kp2} (ha : Szs a) (hb : Szs b) (hk : b.ks = a.ks) (ga : a.gens.length ≤ 27) (ia : a.its.length ≤ 27) (gb : b.gens.length ≤ 27) (ib : b.its.length ≤ 27) : encOk (FW a) (FW b) := by
  have l1 := flatA_len ha
  have l2 := restN_len ha ga ia
  have l3 := flatA_len hb
  have l4 := restN_len hb gb ib
  have e : flatA 0 b = flatA 0 a := by unfold flatA; rw [hk]
  have hA : (FW a).length ≤ 8000 := by rw [FW_split, List.length_append]; omega
  have hB : (FW b).length ≤ 8000 := by rw [FW_split, List.length_append]; omega
  have hnd : ndR (FW a) (FW b) 0 ≤ 4433 := by
    have := ndR_pre (FW a) (flatA 0 b) (restN b) 0 (by rw [List.drop_zero, Nat.zero_add, FW_split a, e, List.drop_left])
    rw [FW_split b]
    omega
  refine ⟨by omega, by omega, ?_⟩
  rw [encB_R, encH]
  have h1 := encR_len4 (FW a) (FW b) 0 0 (Nat.le_refl _) (by omega)
  have h2 := grp4 (FW b).length (by omega)
  simp only [List.length_append, bitsOf_length, natB_length]
  omega
theorem restN_len4 {p : Wv Kp2} (hv : VW holdK p) (k4 : p.ks.length ≤ 4) (f3 : ∀ k ∈ p.ks, k.2.length ≤ 3) {m : Nat} (hg : p.gens.length ≤ m) (hi : p.its.length ≤ m) : (restN p).length ≤ 5 + m + m * 23 := by
  unfold restN
  have h1 := len_flat_le itN 23 p.its fun t ht => by
    have hcs := (hv.ok t ht).2.2
    have a1 : t.2.length ≤ 4 := by have := hcs.len_le; omega
    have h2 := len_flat_le cmN 5 t.2 fun c hc => by
      obtain ⟨k, d, e1, e2, e⟩ := hcs.ok c hc
      obtain ⟨g1, g2, g3⟩ := holdK_iff.1 e
      have := f3 d (List.mem_of_getElem? e2)
      simp only [cmN, List.length_append, List.length_cons, List.length_nil]; omega
    simp only [itN, List.length_append, List.length_cons, List.length_nil]
    omega
  have h3 : p.its.length * 23 ≤ m * 23 := Nat.mul_le_mul_right _ hi
  simp only [List.length_append, List.length_cons, List.length_nil]
  omega
theorem encOk_of4 {a b : Wv Kp2} (ha : Szs a) (hb : Szs b) (va : VW holdK a) (vb : VW holdK b) (hk : b.ks = a.ks) (k4 : a.ks.length ≤ 4) (f3 : ∀ k ∈ a.ks, k.2.length ≤ 3) (ga : a.gens.length ≤ 140) (gb : b.gens.length ≤ 140) : encOk (FW a) (FW b) := by
  have l1 := flatA_len ha
  have l2 := restN_len4 va k4 f3 ga (by have := va.its_len; omega)
  have l3 := flatA_len hb
  have l4 := restN_len4 vb (by rw [hk]; exact k4) (by rw [hk]; exact f3) gb (by have := vb.its_len; omega)
  have e : flatA 0 b = flatA 0 a := by unfold flatA; rw [hk]
  have hA : (FW a).length ≤ 8000 := by rw [FW_split, List.length_append]; omega
  have hB : (FW b).length ≤ 8000 := by rw [FW_split, List.length_append]; omega
  have hnd : ndR (FW a) (FW b) 0 ≤ 3365 := by
    have := ndR_pre (FW a) (flatA 0 b) (restN b) 0 (by rw [List.drop_zero, Nat.zero_add, FW_split a, e, List.drop_left])
    rw [FW_split b]
    omega
  refine ⟨by omega, by omega, ?_⟩
  rw [encB_R, encH]
  have h1 := encR_len4 (FW a) (FW b) 0 0 (Nat.le_refl _) (by omega)
  have h2 := grp4 (FW b).length (by omega)
  simp only [List.length_append, bitsOf_length, natB_length]
  omega

/-- The steps lead from each world to the next, under the names. -/
structure HU (L : List StM) (Ps : List (Wv Kp2)) (Ns : List ByteArray) : Prop where
  lenP : Ps.length = L.length + 1
  lenN : Ns.length = L.length + 1
  st : ∀ j s, L[j]? = some s → ∃ a b, Ps[j]? = some a ∧ Ps[j + 1]? = some b ∧ Ns[j + 1]? = some s.nm ∧ s.ob = encD a b ∧ s.bb = encD b a
theorem get_take_app {α : Type} (l r : List α) (m j : Nat) (hm : m ≤ l.length) : (l.take m ++ r)[j]? = if j < m then l[j]? else r[j - m]? := by
  have h1 : (l.take m).length = m := by rw [List.length_take, Nat.min_eq_left hm]
  split
  · rename_i h
    rw [List.getElem?_append_left (by omega), List.getElem?_take, if_pos h]
  · rw [List.getElem?_append_right (by omega), h1]
theorem HU.do_ {D E : List StM} {Ps : List (Wv Kp2)} {Ns : List ByteArray} {s : StM} {a v : Wv Kp2} (h : HU (D ++ E) Ps Ns) (ha : Ps[D.length]? = some a) (h1 : s.ob = encD a v) (h2 : s.bb = encD v a) :
    HU (D ++ [s]) (Ps.take (D.length + 1) ++ [v]) (Ns.take (D.length + 1) ++ [s.nm]) := by
  have l1 := h.lenP
  have l2 := h.lenN
  rw [List.length_append] at l1 l2
  refine ⟨by simp; omega, by simp; omega, fun j t ht => ?_⟩
  rw [get_take_app _ _ _ _ (by omega), get_take_app _ _ _ _ (by omega), get_take_app _ _ _ _ (by omega)]
  have hj := (List.getElem?_eq_some_iff.1 ht).1
  rw [List.length_append, List.length_singleton] at hj
  rcases Nat.lt_or_ge j D.length with hlt | hge
  · rw [if_pos (by omega), if_pos (by omega), if_pos (by omega)]
    rw [List.getElem?_append_left hlt] at ht
    exact h.st j t (by rw [List.getElem?_append_left hlt]; exact ht)
  · have e : j = D.length := by omega
    subst e
    rw [List.getElem?_append_right (Nat.le_refl _), Nat.sub_self] at ht
    have e : s = t := by simpa using ht
    subst e
    rw [if_pos (by omega), if_neg (by omega), if_neg (by omega), Nat.sub_self]
    exact ⟨a, v, ha, rfl, rfl, h1, h2⟩
theorem HU.tail {L : List StM} {Ps : List (Wv Kp2)} {Ns : List ByteArray} (h : HU L Ps Ns) (hl : 0 < L.length) : HU L.tail Ps.tail Ns.tail := by
  have l1 := h.lenP
  have l2 := h.lenN
  refine ⟨by simp; omega, by simp; omega, fun j t ht => ?_⟩
  rw [List.getElem?_tail] at ht
  obtain ⟨a, b, e1, e2, e3, e4⟩ := h.st (j + 1) t ht
  exact ⟨a, b, by rw [List.getElem?_tail]; exact e1, by rw [List.getElem?_tail]; exact e2, by rw [List.getElem?_tail]; exact e3, e4⟩
theorem HU.join {C D E : List StM} {Ps : List (Wv Kp2)} {Ns : List ByteArray} {s : StM} {a b : Wv Kp2} (h : HU (C ++ D ++ E) Ps Ns) (hd : 0 < D.length) (ha : Ps[C.length]? = some a) (hb : Ps[C.length + D.length]? = some b) (h1 : s.ob = encD a b) (h2 : s.bb = encD b a) :
    HU (C ++ [s] ++ E) (Ps.take (C.length + 1) ++ Ps.drop (C.length + D.length)) ((Ns.take (C.length + 1) ++ Ns.drop (C.length + D.length)).set (C.length + 1) s.nm) := by
  have l1 := h.lenP
  have l2 := h.lenN
  rw [List.length_append, List.length_append] at l1 l2
  refine ⟨by simp; omega, by simp; omega, fun j t ht => ?_⟩
  rw [List.getElem?_set, get_take_app _ _ _ _ (by omega), get_take_app _ _ _ _ (by omega), get_take_app _ _ _ _ (by omega)]
  have hj := (List.getElem?_eq_some_iff.1 ht).1
  rw [List.length_append, List.length_append, List.length_singleton] at hj
  rw [List.append_assoc] at ht
  have hset : (Ns.take (C.length + 1) ++ Ns.drop (C.length + D.length)).length = C.length + 1 + (Ns.length - (C.length + D.length)) := by simp; omega
  rcases Nat.lt_or_ge j C.length with hlt | hge
  · rw [if_pos (by omega), if_pos (by omega), if_neg (by omega), if_pos (by omega)]
    rw [List.getElem?_append_left hlt] at ht
    exact h.st j t (by rw [List.append_assoc, List.getElem?_append_left hlt]; exact ht)
  · rw [List.getElem?_append_right hge] at ht
    rcases Nat.eq_or_lt_of_le hge with e | hgt
    · subst e
      rw [Nat.sub_self] at ht
      have e : s = t := by simpa using ht
      subst e
      rw [if_pos (by omega), if_neg (by omega), if_pos (by omega), if_pos (by rw [hset]; omega), Nat.sub_self, List.getElem?_drop, Nat.add_zero]
      exact ⟨a, b, ha, hb, rfl, h1, h2⟩
    · obtain ⟨i, hi⟩ : ∃ i, j = C.length + 1 + i := ⟨j - C.length - 1, by omega⟩
      subst hi
      rw [show C.length + 1 + i - C.length = i + 1 by omega] at ht
      have ht2 : E[i]? = some t := ht
      rw [if_neg (by omega), if_neg (by omega), if_neg (by omega), if_neg (by omega), List.getElem?_drop, List.getElem?_drop, List.getElem?_drop]
      have := h.st (C.length + D.length + i) t (by rw [List.getElem?_append_right (by rw [List.length_append]; omega), List.length_append, Nat.add_sub_cancel_left]; exact ht2)
      rw [show C.length + D.length + (C.length + 1 + i - (C.length + 1)) = C.length + D.length + i by omega, show C.length + D.length + (C.length + 1 + i + 1 - (C.length + 1)) = C.length + D.length + i + 1 by omega]
      exact this
theorem HU.skip {C E : List StM} {Ps : List (Wv Kp2)} {Ns : List ByteArray} {s : StM} (h : HU (C ++ [s] ++ E) Ps Ns) (he : Ps[C.length]? = Ps[C.length + 1]?) :
    HU (C ++ E) (Ps.take (C.length + 1) ++ Ps.drop (C.length + 2)) (Ns.take (C.length + 1) ++ Ns.drop (C.length + 2)) := by
  have l1 := h.lenP
  have l2 := h.lenN
  rw [List.length_append, List.length_append, List.length_singleton] at l1 l2
  refine ⟨by simp; omega, by simp; omega, fun j t ht => ?_⟩
  rw [get_take_app _ _ _ _ (by omega), get_take_app _ _ _ _ (by omega), get_take_app _ _ _ _ (by omega)]
  have hj := (List.getElem?_eq_some_iff.1 ht).1
  rw [List.length_append] at hj
  rcases Nat.lt_or_ge j C.length with hlt | hge
  · rw [if_pos (by omega), if_pos (by omega), if_pos (by omega)]
    rw [List.getElem?_append_left hlt] at ht
    exact h.st j t (by rw [List.append_assoc, List.getElem?_append_left hlt]; exact ht)
  · obtain ⟨i, hi⟩ : ∃ i, j = C.length + i := ⟨j - C.length, by omega⟩
    subst hi
    rw [List.getElem?_append_right hge, Nat.add_sub_cancel_left] at ht
    obtain ⟨a, b, e1, e2, e3, e4⟩ := h.st (C.length + 1 + i) t (by rw [List.getElem?_append_right (by rw [List.length_append, List.length_singleton]; omega), List.length_append, List.length_singleton, Nat.add_sub_cancel_left]; exact ht)
    refine ⟨a, b, ?_, ?_, ?_, e4⟩
    · split
      · have : i = 0 := by omega
        subst this
        rw [Nat.add_zero, he]; exact e1
      · rw [List.getElem?_drop, show C.length + 2 + (C.length + i - (C.length + 1)) = C.length + 1 + i by omega]; exact e1
    · rw [if_neg (by omega), List.getElem?_drop, show C.length + 2 + (C.length + i + 1 - (C.length + 1)) = C.length + 1 + i + 1 by omega]; exact e2
    · rw [if_neg (by omega), List.getElem?_drop, show C.length + 2 + (C.length + i + 1 - (C.length + 1)) = C.length + 1 + i + 1 by omega]; exact e3
/-- The step that stands last among those done. -/
theorem HU.last {D E : List StM} {Ps : List (Wv Kp2)} {Ns : List ByteArray} {s : StM} (h : HU (D ++ [s] ++ E) Ps Ns) : ∃ a b, Ps[D.length]? = some a ∧ Ps[D.length + 1]? = some b ∧ Ns[D.length + 1]? = some s.nm ∧ s.ob = encD a b ∧ s.bb = encD b a :=
  h.st D.length s (by
    rw [List.append_assoc, List.getElem?_append_right (Nat.le_refl _), Nat.sub_self]
    rfl)

/-! ### Xn -/
theorem strV_app2 (a b : List ByteArray) : strV (a ++ b) = strV a ++ strV b := by simp [strV]

set_option maxHeartbeats 4000000 in
theorem names_any (hb : Nat) (x : Wd) (dA gA : Option Addr) (dn dc gn gc base : Nat) (D G : List StM) (w : World) (h : HistY w hb base x dA dn dc D gA gn gc G) (hsm : dn < 1000 ∧ gn < 1000) :
    Calls Try.prog 92 #[.pointer (some ⟨hb, 0, none⟩)] w fun e w' => ∃ (A1 : Option Addr) (c1 : Nat) (A2 : Option Addr) (c2 : Nat), e = .returned (.tuple #[.slice A1 dn c1, .slice A2 gn c2]) ∧ Hid (Rd w' w'.heap.size 1 A1 dn (strV (D.map StM.nm)) ∧ Rd w' w'.heap.size 1 A2 gn (strV (G.reverse.map StM.nm))) ∧ Below w.heap.size w w' := by
  obtain ⟨i0, hi0, hz0, hz1, hz2⟩ := info_parts T.info9S
  obtain ⟨hs1, hs2⟩ := hsm
  have HH := Lib.hid h
  have a1 : w.cell? ⟨hb, 3, none⟩ = some (.slice dA dn dc) := Bk.cell h.bk 3
  clear h
  go_enter Try.func92, Try.ntmps92
  go_wp2_with fail
  go_loopw [4, 14] (fun out v wi => ∃ (j : Nat) (A2 : Option Addr) (c2 : Nat), j ≤ dn ∧ v = .int .i64 j ∧ out = .slice A2 j c2 ∧ wi.ownsRow w.heap.size 9 1 (.slice A2 j c2) j (strV ((D.map StM.nm).take j)) ∧ Below w.heap.size w wi) (fun _ v _ => dn - (intOf v).toNat)
  case atStart => exact ⟨0, none, 0, Nat.zero_le _, rfl, rfl, World.ownsRow_nil _ _ _ _, Below.refl _ _⟩
  case round =>
    obtain ⟨j, A2, c2, hj, rfl, rfl, hown, hb1⟩ := hrel
    have hsz := hb1.size
    by_cases hjl : j < dn
    · obtain ⟨s, hs⟩ : ∃ s, D[j]? = some s := ⟨_, List.getElem?_eq_getElem (by have := HH.out.d.len; omega)⟩
      obtain ⟨b, o, hA, hbB, d0, d1, d2⟩ := (HH.out.d.keep (F := []) (Kx.of_below hb1) (by simp) (by simp)).at_ hs
      subst hA
      have HS : Hid ((D.map StM.nm).take (j + 1) = (D.map StM.nm).take j ++ [s.nm]) := Lib.hid (by rw [List.take_add_one, List.getElem?_map, hs]; rfl)
      have hjz : (j : Int) < dn := by omega
      have hjz0 : (0 : Int) ≤ j := by omega
      clear hs a1
      generalize s.nm = sn at *
      generalize s.oA = s1 at *
      generalize s.on = s2 at *
      generalize s.oc = s3 at *
      generalize s.bA = s4 at *
      generalize s.bn = s5 at *
      generalize s.bc = s6 at *
      go_wp2_with
        (at_builtin
         go_must (refine wpList_append_one _ rfl (.tmp 18) (.tmp 21) _ rfl w.heap.size 9 i0 (.string ByteArray.empty) 1 16 Try.underlying108 hi0 hz0 hz1 hz2 rfl (by decide) (.slice A2 j c2) j _ rfl ((hown.alloc _).alloc _) _ 1 9 #[.string sn] rfl (Bk.two _ _ _ _) rfl ?c1 (j + 1) rfl ?c2 ?c3 ?c4 ?_)
         case c1 => simp [Value.oneCell']
         case c2 => unfold maxLen; omega
         case c3 => omega
         case c4 => simp; omega
         intro g5 cc5 w5 hown5 hg5 hat5)
      go_roundw
      case measure => simp [intOf]; omega
      case rel =>
        refine ⟨j + 1, _, cc5, by omega, by go_num, rfl, ?_, ((hb1.alloc hsz _).alloc (by simp; omega) _).grown hg5 (by simp; omega) (fun q hq => (hown.lt q hq).1)⟩
        rw [HS.out, strV_app2]
        exact hown5
    · obtain rfl : j = dn := by omega
      have hfull : (D.map StM.nm).take j = D.map StM.nm := List.take_of_length_le (by rw [List.length_map, ← HH.out.d.len]; exact Nat.le_refl _)
      rw [hfull] at hown
      obtain ⟨w1, rfl⟩ : ∃ z, z = wr := ⟨_, rfl⟩
      have h1 : HistY w1 hb base x dA j dc D gA gn gc G := HH.out.keepx (F := []) (Kx.of_below hb1) (by simp) (by simp) (by simp) (by simp) (by simp) (by simp) (by simp) (by simp)
      have c4 : w1.cell? ⟨hb, 4, none⟩ = some (.slice gA gn gc) := Bk.cell h1.bk 4
      have hgz : IntKind.i64.wrap ((gn : Int) - 1) = gn - 1 := by rw [IntKind.wrap_i64]; omega
      have H1 := Lib.hid h1
      have HO := Lib.hid (Rd.of_own hown)
      have HB1 := Lib.hid hb1
      clear h1 hown hb1 a1 hfull
      go_wp2_with fail
      go_loopw [5, 8] (fun out v wi => ∃ (m k : Nat) (A3 : Option Addr) (c3 : Nat), m + k = gn ∧ v = .int .i64 ((m : Int) - 1) ∧ out = .slice A3 k c3 ∧ wi.ownsRow w1.heap.size 9 1 (.slice A3 k c3) k (strV ((G.reverse.map StM.nm).take k)) ∧ Below w1.heap.size w1 wi) (fun _ v _ => (intOf v + 1).toNat)
      case atStart => exact ⟨gn, 0, none, 0, rfl, by go_num, rfl, World.ownsRow_nil _ _ _ _, Below.refl _ _⟩
      case round =>
        obtain ⟨m, k, A3, c3, hmk, rfl, rfl, hown, hb2⟩ := hrel
        have hsz2 := hb2.size
        have h2 : HistY wr hb base x dA j dc D gA gn gc G := H1.out.below hb2
        rcases Nat.eq_zero_or_pos m with hm | hm
        · subst hm
          have hkg : k = gn := by omega
          subst hkg
          have hfull : (G.reverse.map StM.nm).take k = G.reverse.map StM.nm := List.take_of_length_le (by rw [List.length_map, List.length_reverse, ← H1.out.g.len]; exact Nat.le_refl _)
          rw [hfull] at hown
          clear h2
          go_wp2_with fail
          go_ret2
          exact ⟨A2, c2, A3, c3, rfl, Lib.hid ⟨(HO.out.below hb2).more hsz2, Rd.of_own hown⟩, HB1.out.trans (hb2.mono HB1.out.size)⟩
        · obtain ⟨q, rfl⟩ : ∃ q, m = q + 1 := ⟨m - 1, by omega⟩
          obtain ⟨s, hs⟩ : ∃ s, G[q]? = some s := ⟨_, List.getElem?_eq_getElem (by have := H1.out.g.len; omega)⟩
          have hrv : G.reverse[k]? = some s := by
            have hl := H1.out.g.len
            rw [List.getElem?_reverse (by omega), show G.length - 1 - k = q by omega]; exact hs
          obtain ⟨b, o, hA, hbB, d0, d1, d2⟩ := h2.g.at_ hs
          have c5 : wr.cell? ⟨hb, 4, none⟩ = some (.slice gA gn gc) := Bk.cell h2.bk 4
          subst hA
          have HS : Hid ((G.reverse.map StM.nm).take (k + 1) = (G.reverse.map StM.nm).take k ++ [s.nm]) := Lib.hid (by rw [List.take_add_one, List.getElem?_map, hrv]; rfl)
          have eq1 : ((q + 1 : Nat) : Int) - 1 = (q : Int) := by omega
          rw [eq1]
          have hjz : (q : Int) < gn := by omega
          have hjz0 : (0 : Int) ≤ q := by omega
          have hwz : IntKind.i64.wrap ((q : Int) - 1) = q - 1 := by rw [IntKind.wrap_i64]; omega
          clear hs hrv h2 c4
          generalize s.nm = sn at *
          go_wp2_with
            (at_builtin
             go_must (refine wpList_append_one _ rfl (.tmp 34) (.tmp 43) _ rfl w1.heap.size 9 i0 (.string ByteArray.empty) 1 16 Try.underlying108 hi0 hz0 hz1 hz2 rfl (by decide) (.slice A3 k c3) k _ rfl (hown.alloc _) _ 1 9 #[.string sn] rfl (Bk.new _ _ _) rfl ?c1 (k + 1) rfl ?c2 ?c3 ?c4 ?_)
             case c1 => simp [Value.oneCell']
             case c2 => unfold maxLen; omega
             case c3 => omega
             case c4 => simp; omega
             intro g5 cc5 w5 hown5 hg5 hat5)
          go_roundw
          case measure => simp [intOf]
          case rel =>
            refine ⟨q, k + 1, _, cc5, by omega, rfl, rfl, ?_, (hb2.alloc hsz2 _).grown hg5 (by simp; omega) (fun q hq => (hown.lt q hq).1)⟩
            rw [HS.out, strV_app2]
            exact hown5
end Go.Proofs.Ytnidcmhfbkdioaa
