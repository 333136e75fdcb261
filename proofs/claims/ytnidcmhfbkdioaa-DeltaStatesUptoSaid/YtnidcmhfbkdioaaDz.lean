/-
  Parts of a function's code; a growing row whose new element lies in a block of its own. Conditions: none of the code.
-/
import Derived.Test.YtnidcmhfbkdioaaMk
import Derived.Test.YtnidcmhfbkdioaaRl
namespace Go.Proofs.Ytnidcmhfbkdioaa
open Go.RowKit
set_option maxRecDepth 100000

theorem T.info124 : (Try.prog.info? 124).map (fun i => (i.zero, i.size, i.bytes)) = some (some (.agg #[.int .i64 0, .int .i64 0, .int .i64 0, .int .i64 0, .int .i64 0, .int .i64 0, .int .i64 0, .int .i64 0, .int .i64 0, .int .i64 0, .slice none 0 0, .bool false, .int .i64 0]), 13, 120) := by kernel_rfl
theorem T.info128 : (Try.prog.info? 128).map (fun i => (i.zero, i.size, i.bytes)) = some (some (.agg #[.int .i64 0, .int .i64 0]), 2, 16) := by kernel_rfl
def rgnN (n : Nat) : Code → Option Code
  | .region k o b => if k = n then some (.region k o b) else none
  | .block _ c => rgnN n c
  | .seq a b => match rgnN n a with
    | some c => some c
    | none => rgnN n b
  | .loop c => rgnN n c
  | .scope c => rgnN n c
  | .cond _ a b => match rgnN n a with
    | some c => some c
    | none => rgnN n b
  | _ => none
noncomputable def scR18 : Code := (Try.f56.body.bind (rgnN 18)).getD .skip
theorem grown_below {w w' : World} {base size n : Nat} {e : TypeId} {v : Value} {xs : List Value} (ho : w.ownsRow base e size v n xs) (hg : w.grownBy w' v.ownBlock) (hb : base ≤ w.heap.size) : Below base w w' :=
  ⟨hg.os, hg.tape, hg.output, hg.size, fun q hq => hg.block q (by omega) fun e => by have := (ho.lt q e.symm).1; omega⟩
section
variable {P : Program}
theorem wp_append_one {o : Oper} {a : Act} {w : World} {K : Act → World → Prop} {Q : Exit → Act → World → Prop} (s x : Operand) (t : TypeId)
    (ho : o.op = .call { callee := .builtin .append, args := #[s, x], argTypes := #[t, t] })
    (base : Nat) (e : TypeId) (i : TypeInfo) (z : Value) (size bytes : Nat) (ht : P.underlying t = some (.slice e)) (hi : P.info? e = some i) (hz : i.zero = some z)
    (hsize : i.size = size) (hby : i.bytes = bytes) (hzs : z.cells.size = size) (hsz : 0 < size)
    (v : Value) (n : Nat) (xs : List Value) (hs : a.eval s = v) (hown : w.ownsRow base e size v n xs)
    (b c : Nat) (t' : TypeId) (cs : Array Value) (hx : a.eval x = .slice (some ⟨b, 0, none⟩) 1 c) (hr : Bk w b t' cs) (hcs : cs.size = size) (h1 : ∀ u ∈ cs.toList, u.oneCell' = true)
    (n' : Nat) (hn' : n' = n + 1) (h63 : n' ≤ maxLen) (hbytes : n' * bytes ≤ 140737488355328) (hbase : base ≤ w.heap.size)
    (h : ∀ g' c' w', w'.ownsRow base e size (.slice (some ⟨g', 0, none⟩) n' c') n' (xs ++ cs.toList) → w.grownBy w' v.ownBlock → (v.ownBlock = some g' ∨ g' = w.heap.size) → K (a.put o.dst (.slice (some ⟨g', 0, none⟩) n' c')) w') : o.wp P a w K Q := by
  subst hn'
  have hrd : Rd w w.heap.size size (some ⟨b, 0, none⟩) 1 cs.toList :=
    ⟨by simp [hcs], fun _ => ⟨_, _, rfl, hr.lt, fun j u hu => by
      rw [Nat.zero_add]
      exact (hr.cell j).trans (by simpa using hu)⟩⟩
  refine wp_append_rd w s x t ho base e i z size bytes ht hi hz hsize hby hzs hsz v n xs hs hown _ _ 1 c _ hx hrd h1 h63 hbytes hbase fun A' c' w' h2 h3 h4 => ?_
  obtain ⟨g, cap, hv, _, hlt⟩ := h2.form (by omega)
  have hA : A' = some ⟨g, 0, none⟩ := by injection hv
  subst hA
  refine h g c' w' h2 h3 ?_
  rcases h4 with h4 | h4
  · exact .inl (by rw [← h4]; rfl)
  · exact .inr (by simpa [Value.ownBlock] using h4)
end
def blkN (n : Nat) : Code → Option Code
  | .block k c => if k = n then some (.block k c) else blkN n c
  | .seq a b => match blkN n a with
    | some c => some c
    | none => blkN n b
  | .loop c => blkN n c
  | .scope c => blkN n c
  | .cond _ a b => match blkN n a with
    | some c => some c
    | none => blkN n b
  | _ => none
theorem wf_small {n : Nat} (h : n ≤ 64) : (Lit.int .i64 (n : Int)).wf = true := by
  have e1 : IntKind.i64.min = -9223372036854775808 := by decide
  have e2 : IntKind.i64.max = 9223372036854775807 := by decide
  simp [Lit.wf, e1, e2]
  omega

theorem own_farB {w : World} {base size n b i : Nat} {e : TypeId} {v : Value} {xs : List Value} (h : w.ownsRow base e size v n xs) (hb : v.ownBlock ≠ some b) {u : Value} : (w.setCell ⟨b, i, none⟩ u).ownsRow base e size v n xs := by
  refine ⟨h.1, ?_⟩
  rcases h.2 with h1 | ⟨g, cap, cur, h1, h2, h3, h4⟩
  · exact .inl h1
  · refine .inr ⟨g, cap, cur, h1, h2, ?_, h4⟩
    have : g ≠ b := fun e => hb (by rw [h1, e]; rfl)
    exact (Below.heap_setCell w ⟨b, i, none⟩ u g this).trans h3

end Go.Proofs.Ytnidcmhfbkdioaa
