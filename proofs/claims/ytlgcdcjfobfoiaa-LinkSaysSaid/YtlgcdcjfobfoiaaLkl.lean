/-
  The law LinkSays over lists as they are handed. Conditions: what is read can be read.
-/
import Derived.Test.YtlgcdcjfobfoiaaLkj
import Derived.Test.YtlgcdcjfobfoiaaFt
namespace Go.Proofs.Ytlgcdcjfobfoiaa
open Go.RowKit
set_option maxRecDepth 100000

theorem linkSays_law (XA RA : Option Addr) (xn xc rn rc : Nat) (xs rs : List Int) (w : World) (hx : Rd w w.heap.size 1 XA xn (xs.map (Value.int .i64))) (hxn : xn = xs.length) (hx1 : xn ≤ xc) (hx2 : xc ≤ 9223372036854775807) (hwf : ∀ z ∈ xs, (Lit.int .i64 z).wf = true)
    (hr : Rd w w.heap.size 1 RA rn (rs.map (Value.int .u8))) (hrn : rn = rs.length) (hr1 : rn ≤ rc) (hr2 : rc ≤ 9223372036854775807) (hrw : ∀ z ∈ rs, (Lit.int .u8 z).wf = true) :
    Calls Try.prog 10 #[.slice XA xn xc, .slice RA rn rc] w fun e w' => e = .returned (.bool true) ∧ Below w.heap.size w w' := by
  obtain ⟨hraw, hlt⟩ := bytes_of_intsT hrw
  rw [hraw] at hr
  exact linkSays_walk XA RA xn xc rn rc xs (rs.map Int.toNat) w hx hxn ⟨hx1, hx2⟩ hwf hr (by rw [hrn, List.length_map]) ⟨hr1, hr2⟩ hlt
end Go.Proofs.Ytlgcdcjfobfoiaa
