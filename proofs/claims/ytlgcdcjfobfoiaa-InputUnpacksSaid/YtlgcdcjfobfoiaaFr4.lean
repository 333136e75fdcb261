/-
  The law InputUnpacks at the numbers as they come in. Conditions: numbers that fit their kinds, sizes within the reach.
-/
import Derived.Test.YtlgcdcjfobfoiaaFr3
import Derived.Test.YtlgcdcjfobfoiaaLw4
namespace Go.Proofs.Ytlgcdcjfobfoiaa
open Go.RowKit
theorem inputUnpacks_law (A A' : Option Addr) (n c n' c' B : Nat) (l : List Inp) (zs : List Int) (w : World) (hn : n = l.length) (hn' : n' = zs.length) (hm : n ≤ 9223372036854775807) (hs : n' * 1 ≤ 140737488351232)
   (hr : Rd w B 3 A n (inCs l)) (hr' : Rd w B 1 A' n' (zs.map (Value.int .u8))) (hwf : ∀ i ∈ zs, (Lit.int .u8 i).wf = true) (hB : B ≤ w.heap.size) :
    Calls Try.prog 9 #[.slice A n c, .slice A' n' c'] w fun e w' => e = .returned (.bool true) ∧ Below w.heap.size w w' := by
  obtain ⟨e1, e2⟩ := bytes_of_ints hwf
  rw [e1] at hr'
  exact inputUnpacks_walk A A' n c n' c' B l (zs.map Int.toNat) w hn (by simpa using hn') hm (by omega) e2 hr hr' hB
end Go.Proofs.Ytlgcdcjfobfoiaa
