/-
  The law NetAll at the deeds as they come in. Conditions: the deeds can be read.
-/
import Derived.Test.YtlgcdcjfobfoiaaNt9
import Derived.Test.YtlgcdcjfobfoiaaFr2
namespace Go.Proofs.Ytlgcdcjfobfoiaa
open Go.ChangeShapes Go.WideShapes Go.ChangeAt Go.RowKit Go.Deep
set_option maxRecDepth 100000
section
variable {H : Type} {enc : TypeId × Value → H} {P : Program} {w : World} {base : Nat} {spare : Nat → Bool} {held : Bool}
theorem open_cap {t e : TypeId} {fuel : Nat} {A : Option Addr} {n c : Nat} {x : DataW H × List MemPlace} (ht : P.underlying t = some (.slice e))
    (h : DataW.trod enc P w base spare held fuel t [.slice A n c] = some x) : n ≤ c ∧ c ≤ 9223372036854775807 := by
  rcases open_slice ht h with ⟨hcs, _⟩ | ⟨a, len, cap, m, q, D, Pl, hcs, _, hl, hm, _⟩
  · simp at hcs; omega
  · simp at hcs
    unfold maxLen at hm
    omega
end
def ddOf (l : List Inp) : List Dd := l.map fun i => ⟨i.k, i.x, i.y⟩
theorem ddOf_cs (l : List Inp) : inCs l = ddCs (ddOf l) := by
  induction l with
  | nil => rfl
  | cons a l ih =>
    have h1 : inCs (a :: l) = a.cs ++ inCs l := by simp [inCs]
    rw [h1, ih]
    show _ = ddCs (_ :: ddOf l)
    rw [ddCs_cons]
    rfl
theorem netAll_law (A : Option Addr) (n c : Nat) (z : Int) (l : List Inp) (w : World) (hr : Rd w w.heap.size 3 A n (inCs l)) (hn : n = l.length) (hc : n ≤ c ∧ c ≤ 9223372036854775807) :
    Calls Try.prog 5 #[.slice A n c, .int .i64 z] w fun e w' => e = .returned (.bool true) ∧ Below w.heap.size w w' := by
  rw [ddOf_cs] at hr
  exact netAll_walk A n c z (ddOf l) w hr (by simpa [ddOf] using hn) hc.1 hc.2
end Go.Proofs.Ytlgcdcjfobfoiaa
