/-
  Reading a list of numbers as game.reader reads it, and the numbers of a state: plain. No condition.
-/
import Derived.Test.YtnidcmhfbkdioaaVf
namespace Go.Proofs.Ytnidcmhfbkdioaa
open Go.RowKit
set_option maxRecDepth 100000

/-! ### A reader: what is left, and whether something was bad -/
abbrev RS := List Int × Bool
def rN (s : RS) : Int × RS := match s.1 with
  | [] => (0, ([], true))
  | x :: r => (x, (r, s.2))
def rM (s : RS) : Nat × RS := if (rN s).1 < 0 ∨ ((rN s).2.1.length : Int) < (rN s).1 then (0, ((rN s).2.1, true)) else ((rN s).1.toNat, (rN s).2)
def rL (s : RS) : List Int × RS := ((rM s).2.1.take (rM s).1, ((rM s).2.1.drop (rM s).1, (rM s).2.2))
def badB (x : Int) : Bool := decide (x < 0) || decide (255 < x)
def toB (x : Int) : UInt8 := UInt8.ofNat (x % 256).toNat
def toBs (xs : List Int) : ByteArray := ⟨(xs.map toB).toArray⟩
def rT (s : RS) : ByteArray × RS := (toBs (rL s).1, ((rL s).2.1, (rL s).2.2 || (rL s).1.any badB))
def rep {α : Type} (f : RS → α × RS) : Nat → RS → List α × RS
  | 0, s => ([], s)
  | n + 1, s => ((rep f n s).1 ++ [(f (rep f n s).2).1], (f (rep f n s).2).2)
def rFd (s : RS) : Fd × RS := (⟨(rT s).1, (rN (rT s).2).1, (rN (rN (rT s).2).2).1⟩, (rN (rN (rT s).2).2).2)
def rKd (s : RS) : Kp2 × RS := (((rT s).1, (rep rFd (rM (rT s).2).1 (rM (rT s).2).2).1), (rep rFd (rM (rT s).2).1 (rM (rT s).2).2).2)
def rCm (s : RS) : (Int × List Int) × RS := (((rN s).1, (rL (rN s).2).1), (rL (rN s).2).2)
def rE (s : RS) : (Int × Int) × RS := (((rN s).1, (rN (rN s).2).1), (rN (rN s).2).2)
def rIt (s : RS) : Iv × RS := (((rE s).1, (rep rCm (rM (rE s).2).1 (rM (rE s).2).2).1), (rep rCm (rM (rE s).2).1 (rM (rE s).2).2).2)
def rKs (s : RS) : List Kp2 × RS := rep rKd (rM s).1 (rM s).2
def rIs (s : RS) : List Iv × RS := rep rIt (rM s).1 (rM s).2
def rWd (s : RS) : Wv Kp2 × RS := (⟨(rKs s).1, (rL (rKs s).2).1, (rIs (rL (rKs s).2).2).1⟩, (rIs (rL (rKs s).2).2).2)
def rCt : RS → List Int × RS := rep rN 10
def rEv : RS → List Int × RS := rep rN 4
def rMd (s : RS) : (List Int × List Int) × RS := (((rep rN 3 s).1, (rL (rep rN 3 s).2).1), (rL (rep rN 3 s).2).2)
def rMany {α : Type} (f : RS → α × RS) (s : RS) : List α × RS := rep f (rM s).1 (rM s).2
/-- A state: its tick, its world, contacts, minds and events. -/
structure Sv where
  T : Int
  p : Wv Kp2
  cts : List (List Int)
  mds : List (List Int × List Int)
  evs : List (List Int)
def rSt (s : RS) : Sv × RS :=
  let a := rN s
  let b := rWd a.2
  let c := rMany rCt b.2
  let d := rMany rMd c.2
  let e := rMany rEv d.2
  (⟨a.1, b.1, c.1, d.1, e.1⟩, e.2)

/-! ### The numbers of a state -/
def mdN (m : List Int × List Int) : List Int := m.1 ++ [(m.2.length : Int)] ++ m.2
def ctsN (s : Sv) : List Int := [(s.cts.length : Int)] ++ s.cts.flatMap id
def mdsN (s : Sv) : List Int := [(s.mds.length : Int)] ++ s.mds.flatMap mdN
def evsN (s : Sv) : List Int := [(s.evs.length : Int)] ++ s.evs.flatMap id
def flatS (s : Sv) : List Int := s.T :: (worldN s.p ++ (ctsN s ++ (mdsN s ++ evsN s)))
structure WfS (s : Sv) : Prop where
  ct : ∀ c ∈ s.cts, c.length = 10
  md : ∀ m ∈ s.mds, m.1.length = 3
  ev : ∀ c ∈ s.evs, c.length = 4

/-! ### What was written is read -/
theorem rM_at (n : Nat) (l : List Int) (b : Bool) (h : n ≤ l.length) : rM ((n : Int) :: l, b) = (n, (l, b)) := by
  unfold rM rN
  simp only
  rw [if_neg (by omega)]
  simp
theorem rL_at (xs l : List Int) (b : Bool) : rL ((xs.length : Int) :: (xs ++ l), b) = (xs, (l, b)) := by
  unfold rL
  rw [rM_at _ _ _ (by simp)]
  simp
theorem toBs_byteL (s : ByteArray) : toBs (byteL s) = s := by
  unfold toBs byteL
  apply ByteArray.ext
  apply Array.toList_inj.mp
  simp only [List.map_map]
  refine (List.map_congr_left (g := id) fun b _ => ?_).trans (by simp)
  simp only [Function.comp, toB, id]
  have := b.toNat_lt
  rw [Int.emod_eq_of_lt (by omega) (by omega)]
  simp
theorem any_byteL (s : ByteArray) : (byteL s).any badB = false := by
  rw [List.any_eq_false]
  intro x hx
  have := byteL_rng s x hx
  simp only [badB, Bool.or_eq_true, decide_eq_true_eq]
  omega
theorem rT_at (s : ByteArray) (l : List Int) (b : Bool) : rT (textF s ++ l, b) = (s, (l, b)) := by
  unfold rT
  have h : textF s ++ l = ((byteL s).length : Int) :: (byteL s ++ l) := by unfold textF; rw [byteL_length]; rfl
  rw [h, rL_at]
  simp only [toBs_byteL, any_byteL, Bool.or_false]
theorem rep_at {α : Type} (f : RS → α × RS) (g : α → List Int) (l : List α) (r : List Int) (b : Bool) (h : ∀ a ∈ l, ∀ r b, f (g a ++ r, b) = (a, (r, b))) (k : Nat) (hk : k ≤ l.length) :
    rep f k (l.flatMap g ++ r, b) = (l.take k, ((l.drop k).flatMap g ++ r, b)) := by
  induction k with
  | zero => simp [rep]
  | succ k ih =>
    have hi := ih (by omega)
    obtain ⟨x, hx⟩ : ∃ x, l[k]? = some x := ⟨_, List.getElem?_eq_getElem (by omega)⟩
    unfold rep
    rw [hi]
    simp only
    rw [drop_at hx, List.flatMap_cons, List.append_assoc, h x (List.mem_of_getElem? hx), List.take_add_one, hx]
    rfl
theorem rep_all {α : Type} (f : RS → α × RS) (g : α → List Int) (l : List α) (r : List Int) (b : Bool) (h : ∀ a ∈ l, ∀ r b, f (g a ++ r, b) = (a, (r, b))) :
    rep f l.length (l.flatMap g ++ r, b) = (l, (r, b)) := by
  rw [rep_at f g l r b h _ (Nat.le_refl _)]
  simp
theorem rMany_at {α : Type} (f : RS → α × RS) (g : α → List Int) (l : List α) (r : List Int) (b : Bool) (h : ∀ a ∈ l, ∀ r b, f (g a ++ r, b) = (a, (r, b))) (h1 : ∀ a ∈ l, 1 ≤ (g a).length) :
    rMany f (((l.length : Int) :: (l.flatMap g ++ r)), b) = (l, (r, b)) := by
  have hl : l.length ≤ (l.flatMap g ++ r).length := by
    have : l.length ≤ (l.flatMap g).length := by
      clear h
      induction l with
      | nil => simp
      | cons a l ih =>
        have h2 := h1 a (by simp)
        have h3 := ih (fun x hx => h1 x (by simp [hx]))
        simp only [List.flatMap_cons, List.length_append, List.length_cons]
        omega
    rw [List.length_append]; omega
  unfold rMany
  rw [rM_at _ _ _ hl]
  exact rep_all f g l r b h
theorem rFd_at (f : Fd) (l : List Int) (b : Bool) : rFd (fdN f ++ l, b) = (f, (l, b)) := by
  unfold rFd fdN
  rw [List.append_assoc, rT_at]
  rfl
theorem rKd_at (k : Kp2) (l : List Int) (b : Bool) : rKd (kdN k ++ l, b) = (k, (l, b)) := by
  have h := rMany_at rFd fdN k.2 l b (fun a _ r b => rFd_at a r b) (fun a _ => fdN_pos a)
  unfold rMany at h
  unfold rKd kdN
  rw [List.append_assoc, List.append_assoc, rT_at]
  simp only [List.singleton_append]
  rw [h]
theorem rCm_at (c : Int × List Int) (l : List Int) (b : Bool) : rCm (cmN c ++ l, b) = (c, (l, b)) := by
  have h := rL_at c.2 l b
  unfold rCm cmN
  simp only [List.append_assoc, List.cons_append, List.nil_append, rN]
  rw [h]
theorem rIt_at (t : Iv) (l : List Int) (b : Bool) : rIt (itN t ++ l, b) = (t, (l, b)) := by
  have h := rMany_at rCm cmN t.2 l b (fun a _ r b => rCm_at a r b) (fun a _ => cmN_pos a)
  unfold rMany at h
  unfold rIt itN rE
  simp only [List.append_assoc, List.cons_append, List.nil_append, rN]
  rw [h]
theorem rWd_at (p : Wv Kp2) (l : List Int) (b : Bool) : rWd (worldN p ++ l, b) = (p, (l, b)) := by
  have h1 := rMany_at rKd kdN p.ks (gensN p ++ (itsN p ++ l)) b (fun a _ r b => rKd_at a r b) (fun a _ => kdN_pos a)
  have h2 := rL_at p.gens (itsN p ++ l) b
  have h3 := rMany_at rIt itN p.its l b (fun a _ r b => rIt_at a r b) (fun a _ => itN_pos a)
  have e1 : rKs (worldN p ++ l, b) = (p.ks, (gensN p ++ (itsN p ++ l), b)) := by
    rw [← h1]
    unfold rKs rMany worldN
    simp only [List.append_assoc, List.cons_append, List.nil_append]
  have e2 : rL (gensN p ++ (itsN p ++ l), b) = (p.gens, (itsN p ++ l, b)) := by
    rw [← h2]
    unfold gensN
    simp only [List.append_assoc, List.cons_append, List.nil_append]
  have e3 : rIs (itsN p ++ l, b) = (p.its, (l, b)) := by
    rw [← h3]
    unfold rIs rMany itsN
    simp only [List.append_assoc, List.cons_append, List.nil_append]
  unfold rWd
  rw [e1]
  simp only
  rw [e2]
  simp only
  rw [e3]
theorem rK_at (k : Nat) (c l : List Int) (b : Bool) (h : c.length = k) : rep rN k (c ++ l, b) = (c, (l, b)) := by
  have := rep_all rN (fun x => [x]) c l b (fun a _ r b => rfl)
  rw [List.flatMap_singleton', h] at this
  exact this
theorem rMd_at (m : List Int × List Int) (l : List Int) (b : Bool) (h : m.1.length = 3) : rMd (mdN m ++ l, b) = (m, (l, b)) := by
  have h2 := rL_at m.2 l b
  unfold rMd mdN
  rw [List.append_assoc, List.append_assoc, rK_at 3 _ _ _ h]
  simp only [List.singleton_append]
  rw [h2]
/-- What Flat wrote, Unflat reads. -/
theorem rSt_at (s : Sv) (h : WfS s) : rSt (flatS s, false) = (s, ([], false)) := by
  have h1 := rWd_at s.p (ctsN s ++ (mdsN s ++ evsN s)) false
  have h2 := rMany_at rCt id s.cts (mdsN s ++ evsN s) false (fun a ha r b => rK_at 10 a r b (h.ct a ha)) (fun a ha => by have := h.ct a ha; simp only [id]; omega)
  have h3 := rMany_at rMd mdN s.mds (evsN s) false (fun a ha r b => rMd_at a r b (h.md a ha)) (fun a ha => by simp only [mdN, List.length_append]; have := h.md a ha; omega)
  have h4 := rMany_at rEv id s.evs [] false (fun a ha r b => rK_at 4 a r b (h.ev a ha)) (fun a ha => by have := h.ev a ha; simp only [id]; omega)
  have e2 : rMany rCt (ctsN s ++ (mdsN s ++ evsN s), false) = (s.cts, (mdsN s ++ evsN s, false)) := by
    rw [← h2]; unfold ctsN; simp only [List.append_assoc, List.cons_append, List.nil_append]
  have e3 : rMany rMd (mdsN s ++ evsN s, false) = (s.mds, (evsN s, false)) := by
    rw [← h3]; unfold mdsN; simp only [List.append_assoc, List.cons_append, List.nil_append]
  have e4 : rMany rEv (evsN s, false) = (s.evs, ([], false)) := by
    rw [← h4]; unfold evsN; simp only [List.append_assoc, List.cons_append, List.nil_append, List.append_nil]
  unfold rSt flatS
  simp only [rN]
  rw [h1]
  simp only
  rw [e2]
  simp only
  rw [e3]
  simp only
  rw [e4]
end Go.Proofs.Ytnidcmhfbkdioaa
