/-
  What a packet's deeds make of it: plain lemmas. The contracts of Left and Sent; the contract of Send. Conditions: a network in memory, numbers of moderate size.
-/
import Derived.Test.YtlgcdcjfobfoiaaNt4
namespace Go.Proofs.Ytlgcdcjfobfoiaa
open Go.RowKit
set_option maxRecDepth 100000

def lostB (ds : List Dd) (i : Int) : Bool := ds.any fun d => d.pk == i && d.kind == 0
def lateOf (ds : List Dd) (i : Int) : Int := ((ds.filter fun d => d.pk == i && d.kind == 1).map Dd.n).sum
def copOf (ds : List Dd) (i : Int) : List Int := (ds.filter fun d => d.pk == i && d.kind == 2).map Dd.n
/-- The steps in which a packet and its copies arrive. -/
def timesOf (ds : List Dd) (i now : Int) : List Int :=
  if lostB ds i then [] else (now + 1 + lateOf ds i) :: (copOf ds i).map fun c => now + 1 + lateOf ds i + c

theorem lostB_append (a b : List Dd) (i : Int) : lostB (a ++ b) i = (lostB a i || lostB b i) := by simp [lostB]
theorem lateOf_append (a b : List Dd) (i : Int) : lateOf (a ++ b) i = lateOf a i + lateOf b i := by simp [lateOf]
theorem copOf_append (a b : List Dd) (i : Int) : copOf (a ++ b) i = copOf a i ++ copOf b i := by simp [copOf]
theorem copOf_length (ds : List Dd) (i : Int) : (copOf ds i).length ≤ ds.length := by
  unfold copOf; rw [List.length_map]; exact List.length_filter_le _ _
theorem sum_bd (l : List Int) (h : ∀ x ∈ l, 0 ≤ x ∧ x ≤ 50) : 0 ≤ l.sum ∧ l.sum ≤ 50 * l.length := by
  induction l with
  | nil => simp
  | cons a l ih =>
    have h1 := h a (by simp)
    have h2 := ih fun x hx => h x (by simp [hx])
    simp only [List.sum_cons, List.length_cons]; omega
theorem good_n {d : Dd} (h : ¬ d.bad) : 0 ≤ d.kind ∧ d.kind ≤ 2 ∧ 0 ≤ d.pk ∧ d.pk ≤ 32767 ∧ 0 ≤ d.n ∧ d.n ≤ 50 := by
  unfold Dd.bad at h; omega
theorem lateOf_bd (ds : List Dd) (i : Int) (h : ∀ d ∈ ds, ¬ d.bad) : 0 ≤ lateOf ds i ∧ lateOf ds i ≤ 50 * ds.length := by
  have := sum_bd ((ds.filter fun d => d.pk == i && d.kind == 1).map Dd.n) fun x hx => by
    obtain ⟨d, hd, rfl⟩ := List.mem_map.1 hx
    have := good_n (h d (List.mem_filter.1 hd).1)
    exact ⟨this.2.2.2.2.1, this.2.2.2.2.2⟩
  have h2 : ((ds.filter fun d => d.pk == i && d.kind == 1).map Dd.n).length ≤ ds.length := by rw [List.length_map]; exact List.length_filter_le _ _
  unfold lateOf
  omega
theorem copOf_bd (ds : List Dd) (i : Int) (h : ∀ d ∈ ds, ¬ d.bad) : ∀ c ∈ copOf ds i, 0 ≤ c ∧ c ≤ 50 := by
  intro c hc
  obtain ⟨d, hd, rfl⟩ := List.mem_map.1 hc
  have := good_n (h d (List.mem_filter.1 hd).1)
  exact ⟨this.2.2.2.2.1, this.2.2.2.2.2⟩
theorem timesOf_length (ds : List Dd) (i now : Int) : (timesOf ds i now).length ≤ ds.length + 1 := by
  unfold timesOf
  split
  · simp
  · have := copOf_length ds i
    simp; omega

def Fl.key (f : Fl) : Int × Int × Int × Int × List Int := (f.due, f.num, f.fr, f.to, f.dat)

/-- What Send leaves. -/
def SendPost (base g : Nat) (ends now sent fr to : Int) (dat : List Int) (ds : List Dd) (fs : List Fl) (w w' : World) : Prop :=
  ∃ fs' fl, Adds fl fs fs' ∧ fl.map Fl.key = (timesOf ds sent now).map (fun t => (t, sent, fr, to, dat)) ∧ NetSt w' base g ends now (sent + 1) ds fs' ∧ Kq base w w'

def sendErr (ends sent fr to : Int) (n : Nat) : Int :=
  if fr < 0 ∨ ends ≤ fr ∨ to < 0 ∨ ends ≤ to ∨ fr = to then 1 else if 4000 < n then 2 else if sent = 32768 then 6 else 0

theorem netLeft_any (base g : Nat) (ends now sent : Int) (ds : List Dd) (fs : List Fl) (w : World) (h : NetSt w base g ends now sent ds fs) :
    Calls Try.prog 27 #[.pointer (some ⟨g, 0, none⟩)] w fun e w' => e = .returned (.int .i64 fs.length) ∧ w' = w := by
  obtain ⟨DA, dc, AA, ac, hbk, _⟩ := h.st
  have c4 : w.cell? ⟨g, 4, none⟩ = some (.slice AA fs.length ac) := hbk.cell 4
  clear hbk
  go_enter Try.func27, Try.ntmps27
  go_wp2_with fail
  go_ret
  exact ⟨rfl, rfl⟩
theorem netSent_any (base g : Nat) (ends now sent : Int) (ds : List Dd) (fs : List Fl) (w : World) (h : NetSt w base g ends now sent ds fs) :
    Calls Try.prog 28 #[.pointer (some ⟨g, 0, none⟩)] w fun e w' => e = .returned (.int .i64 sent) ∧ w' = w := by
  obtain ⟨DA, dc, AA, ac, hbk, _⟩ := h.st
  have c4 : w.cell? ⟨g, 3, none⟩ = some (.int .i64 sent) := hbk.cell 3
  clear hbk
  go_enter Try.func28, Try.ntmps28
  go_wp2_with fail
  go_ret
  exact ⟨rfl, rfl⟩

set_option maxHeartbeats 800000 in
theorem netSend_bad (base g : Nat) (ends now sent fr to : Int) (A : Option Addr) (n c : Nat) (ds : List Dd) (fs : List Fl) (w : World) (h : NetSt w base g ends now sent ds fs) (hnc : n ≤ c ∧ c ≤ maxLen) (hbad : sendErr ends sent fr to n ≠ 0) :
    Calls Try.prog 25 #[.pointer (some ⟨g, 0, none⟩), .int .i64 fr, .int .i64 to, .slice A n c] w fun e w' => e = .returned (.int .i64 (sendErr ends sent fr to n)) ∧ w' = w := by
  obtain ⟨DA, dc, AA, ac, hbk, _⟩ := h.st
  have c0 : w.cell? ⟨g, 0, none⟩ = some (.int .i64 ends) := hbk.cell 0
  have c3 : w.cell? ⟨g, 3, none⟩ = some (.int .i64 sent) := hbk.cell 3
  obtain ⟨hn, hc⟩ := hnc
  unfold maxLen at hc
  have hcase : (sendErr ends sent fr to n = 1 ∧ (fr < 0 ∨ (0 ≤ fr ∧ ends ≤ fr) ∨ (0 ≤ fr ∧ fr < ends ∧ to < 0) ∨ (0 ≤ fr ∧ fr < ends ∧ 0 ≤ to ∧ ends ≤ to) ∨ (0 ≤ fr ∧ fr < ends ∧ 0 ≤ to ∧ to < ends ∧ (fr == to) = true))) ∨
      (sendErr ends sent fr to n = 2 ∧ 0 ≤ fr ∧ fr < ends ∧ 0 ≤ to ∧ to < ends ∧ (fr == to) = false ∧ 4000 < n) ∨
      (sendErr ends sent fr to n = 6 ∧ 0 ≤ fr ∧ fr < ends ∧ 0 ≤ to ∧ to < ends ∧ (fr == to) = false ∧ n ≤ 4000 ∧ (sent == 32768) = true) := by
    unfold sendErr at hbad ⊢
    simp only [beq_iff_eq, beq_eq_false_iff_ne]
    by_cases h1 : fr < 0 ∨ ends ≤ fr ∨ to < 0 ∨ ends ≤ to ∨ fr = to
    · rw [if_pos h1]; left; exact ⟨rfl, by omega⟩
    · rw [if_neg h1] at hbad ⊢
      by_cases h2 : 4000 < n
      · rw [if_pos h2]; right; left; exact ⟨rfl, by omega⟩
      · rw [if_neg h2] at hbad ⊢
        by_cases h3 : sent = 32768
        · rw [if_pos h3]; right; right; exact ⟨rfl, by omega⟩
        · rw [if_neg h3] at hbad; exact absurd rfl hbad
  clear hbad hbk h
  rcases hcase with ⟨he, hcase⟩ | ⟨he, k1, k2, k3, k4, k5, k6⟩ | ⟨he, k1, k2, k3, k4, k5, k6, k7⟩
  · have HE := Lib.hid he
    clear he
    rcases hcase with k1 | ⟨k1, k2⟩ | ⟨k1, k2, k3⟩ | ⟨k1, k2, k3, k4⟩ | ⟨k1, k2, k3, k4, k5⟩
    all_goals
      go_enter Try.func25, Try.ntmps25
      go_wp2_with fail
      go_ret
      exact ⟨by rw [HE.out]; rfl, rfl⟩
  all_goals
    have HE := Lib.hid he
    clear he
    go_enter Try.func25, Try.ntmps25
    go_wp2_with fail
    go_ret
    exact ⟨by rw [HE.out]; rfl, rfl⟩

end Go.Proofs.Ytlgcdcjfobfoiaa
