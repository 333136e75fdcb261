/-
  Flights in order of their times: plain lemmas. bytes.Clone's contract.
-/
import Derived.Test.YtlgcdcjfobfoiaaNt2
import Derived.Test.YtlgcdcjfobfoiaaSl
namespace Go.Proofs.Ytlgcdcjfobfoiaa
open Go.RowKit
set_option maxRecDepth 100000

def Srt (l : List Fl) : Prop := l.Pairwise fun a b => a.due ≤ b.due
def at_ (t : Int) (l : List Fl) : List Fl := l.filter fun f => decide (f.due = t)
/-- The flights fl have been added to fs. -/
def Adds (fl fs fs' : List Fl) : Prop :=
  (Srt fs → Srt fs' ∧ ∀ t, at_ t fs' = at_ t fs ++ at_ t fl) ∧ fs'.length = fs.length + fl.length ∧ fs'.Perm (fs ++ fl)

theorem at_append (t : Int) (a b : List Fl) : at_ t (a ++ b) = at_ t a ++ at_ t b := by simp [at_]
theorem Adds.nil (fs : List Fl) : Adds [] fs fs := ⟨fun h => ⟨h, fun t => by simp [at_]⟩, by simp, by simp⟩
theorem Adds.trans {a b fs fs1 fs2 : List Fl} (h : Adds a fs fs1) (k : Adds b fs1 fs2) : Adds (a ++ b) fs fs2 := by
  refine ⟨fun hs => ?_, by rw [k.2.1, h.2.1, List.length_append]; omega, ?_⟩
  · obtain ⟨h1, h2⟩ := h.1 hs
    obtain ⟨k1, k2⟩ := k.1 h1
    exact ⟨k1, fun t => by rw [k2, h2, at_append, List.append_assoc]⟩
  · have := k.2.2.trans (h.2.2.append_right b)
    rwa [List.append_assoc] at this

theorem adds_one (f : Fl) (fs : List Fl) (i : Nat) (hi : i ≤ fs.length) (h1 : ∀ (j : Nat) (x : Fl), fs[j]? = some x → i ≤ j → f.due < x.due) (h2 : ∀ (j : Nat) (x : Fl), fs[j]? = some x → j + 1 = i → x.due ≤ f.due) :
    Adds [f] fs (fs.take i ++ f :: fs.drop i) := by
  have hd : ∀ x ∈ fs.drop i, f.due < x.due := by
    intro x hx
    obtain ⟨j, hj⟩ := List.mem_iff_getElem?.1 hx
    rw [List.getElem?_drop] at hj
    exact h1 _ x hj (by omega)
  refine ⟨fun hs => ?_, by simp; omega, ?_⟩
  · have ht : ∀ x ∈ fs.take i, x.due ≤ f.due := by
      intro x hx
      obtain ⟨j, hj⟩ := List.mem_iff_getElem?.1 hx
      rw [List.getElem?_take] at hj
      split at hj
      · rename_i hji
        obtain ⟨m, rfl⟩ : ∃ m, i = m + 1 := ⟨i - 1, by omega⟩
        have hm : m < fs.length := by omega
        have hle := h2 m fs[m] (List.getElem?_eq_getElem hm) rfl
        rcases Nat.lt_or_ge j m with h | h
        · have := List.pairwise_iff_getElem.1 hs j m (by omega) hm h
          obtain ⟨hj', hx'⟩ := List.getElem?_eq_some_iff.1 hj
          rw [hx'] at this
          omega
        · obtain rfl : j = m := by omega
          obtain ⟨hj', hx'⟩ := List.getElem?_eq_some_iff.1 hj
          rw [← hx']; exact hle
      · cases hj
    have hs1 : Srt (fs.take i) := List.Pairwise.sublist (List.take_sublist _ _) hs
    have hs2 : Srt (fs.drop i) := List.Pairwise.sublist (List.drop_sublist _ _) hs
    refine ⟨List.pairwise_append.2 ⟨hs1, List.pairwise_cons.2 ⟨fun x hx => Int.le_of_lt (hd x hx), hs2⟩, fun x hx y hy => ?_⟩, fun t => ?_⟩
    · rcases List.mem_cons.1 hy with rfl | hy
      · exact ht x hx
      · have := ht x hx; have := hd y hy; omega
    · have e : fs = fs.take i ++ fs.drop i := (List.take_append_drop i fs).symm
      conv => rhs; rw [e]
      rw [at_append, at_append]
      by_cases hft : f.due = t
      · have h0 : at_ t (fs.drop i) = [] := by
          simp only [at_, List.filter_eq_nil_iff, decide_eq_true_eq]
          intro x hx he
          have := hd x hx; omega
        have h3 : at_ t (f :: fs.drop i) = [f] := by
          have : at_ t (f :: fs.drop i) = f :: at_ t (fs.drop i) := by simp [at_, hft]
          rw [this, h0]
        rw [h3, h0]
        simp [at_, hft]
      · simp [at_, hft]
  · refine List.perm_middle.trans ?_
    rw [List.take_append_drop]
    exact (List.perm_append_singleton f fs).symm

set_option maxHeartbeats 800000 in
theorem bytesClone_any (A : Option Addr) (n c B : Nat) (xs : List Value) (w : World) (hr : Rd w B 1 A n xs) (h1 : ∀ u ∈ xs, u.oneCell' = true) (hB : B ≤ w.heap.size) (hs : n * 1 ≤ 140737488355328) :
    Calls Try.prog 69 #[.slice A n c] w (RetS w 5 1 n xs) := by
  obtain ⟨i0, hi0, hz0, hz1, hz2⟩ := info_parts T.info5
  have hn := fun wx => Lib.run_eql_slice_nil (P := Try.prog) wx 30 5 A n c 0 0 Try.underlying30
  cases A with
  | none =>
    obtain rfl : n = 0 := by
      rcases Nat.eq_zero_or_pos n with h | h
      · exact h
      · obtain ⟨_, _, h, _⟩ := hr.2 h; cases h
    obtain rfl : xs = [] := List.eq_nil_of_length_eq_zero (by simpa using hr.1)
    go_enter Try.func69, Try.ntmps69
    go_wp2_with fail
    go_ret
    exact ⟨none, 0, by simp, World.ownsRow_nil _ _ _ _, Below.refl _ _⟩
  | some a =>
    go_enter Try.func69, Try.ntmps69
    go_wp2_with
      (at_builtin
       go_must (refine wpList_append_rd _ rfl (.tmp 5) (.tmp 6) _ rfl w.heap.size 5 i0 (.int .u8 0) 1 1 Try.underlying30 hi0 hz0 hz1 hz2 rfl (by decide) (.slice (some ⟨w.heap.size, 0, none⟩) 0 0) 0 [] rfl (World.ownsRow_lit w #[] 0 (Nat.le_refl _) (by decide) rfl) B (some a) n c xs rfl (hr.below ((Below.refl B w).alloc hB _)) h1 ?c2 ?c3 ?c4 ?_)
       case c2 => unfold maxLen; omega
       case c3 => omega
       case c4 => simp
       intro A' c' w1 hown1 hg1 hat1)
    go_ret
    simp only [Nat.zero_add, List.nil_append] at hown1
    exact ⟨A', c', by simp, hown1, ((Below.refl _ _).alloc (Nat.le_refl _) _).grown hg1 (by simp) (by simp [Value.ownBlock])⟩

end Go.Proofs.Ytlgcdcjfobfoiaa
