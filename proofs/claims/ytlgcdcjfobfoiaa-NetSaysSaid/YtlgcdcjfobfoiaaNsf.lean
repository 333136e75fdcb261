/-
  The law NetSays at the arguments as they come in. Conditions: they can be read.
-/
import Derived.Test.YtlgcdcjfobfoiaaNs6
import Derived.Test.YtlgcdcjfobfoiaaNtf
namespace Go.Proofs.Ytlgcdcjfobfoiaa
open Go.RowKit
theorem netSays_law (ends : Int) (A XA : Option Addr) (n c xn xc : Nat) (l : List Inp) (xs : List Int) (w : World) (hr : Rd w w.heap.size 3 A n (inCs l)) (hn : n = l.length) (hc : n ≤ c ∧ c ≤ 9223372036854775807) (hx : Rd w w.heap.size 1 XA xn (xs.map (Value.int .i64))) (hxn : xn = xs.length) (hx1 : xn ≤ xc) (hx2 : xc ≤ 9223372036854775807) (hwf : ∀ z ∈ xs, (Lit.int .i64 z).wf = true) :
    Calls Try.prog 6 #[.int .i64 ends, .slice A n c, .slice XA xn xc] w fun e w' => e = .returned (.bool true) ∧ Below w.heap.size w w' := by
  rw [ddOf_cs] at hr
  exact netSays_walk ends A XA n c xn xc (ddOf l) xs w hr (by simpa [ddOf] using hn) hc hx hxn ⟨hx1, hx2⟩ hwf
end Go.Proofs.Ytlgcdcjfobfoiaa
