/-
  The law LinkAll at the deeds as they come in. Conditions: the deeds can be read.
-/
import Derived.Test.YtlgcdcjfobfoiaaLl5
import Derived.Test.YtlgcdcjfobfoiaaNtf
namespace Go.Proofs.Ytlgcdcjfobfoiaa
open Go.RowKit
theorem linkAll_law (A : Option Addr) (n c : Nat) (z : Int) (l : List Inp) (w : World) (hr : Rd w w.heap.size 3 A n (inCs l)) (hn : n = l.length) (hc : n ≤ c ∧ c ≤ 9223372036854775807) :
    Calls Try.prog 11 #[.slice A n c, .int .i64 z] w fun e w' => e = .returned (.bool true) ∧ Below w.heap.size w w' := by
  rw [ddOf_cs] at hr
  exact linkAll_walk A n c z (ddOf l) w hr (by simpa [ddOf] using hn) hc.1 hc.2
end Go.Proofs.Ytlgcdcjfobfoiaa
