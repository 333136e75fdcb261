/-
  Facts of the program that the row of bridgeTwice asks for, joined (the kernel's memory). No condition.
-/
import Derived.Test.YtnidcmhfbkdioaaLawBridgeTwiceF1
import Derived.Test.YtnidcmhfbkdioaaLawBridgeTwiceF2
namespace Go.Proofs.Ytnidcmhfbkdioaa.bridgeTwice
open Go.ChangeShapes Go.WideShapes Go.ChangeAt Go.RowKit
set_option maxRecDepth 100000
theorem factB : joinedFacts Try.pinned.checked.prog 16 Try.f16 Rows.bridgeTwiceSpec Rows.bridgeTwiceRow = true := by
  unfold joinedFacts
  rw [factI, factU, factR, factN]
  kernel_rfl
end Go.Proofs.Ytnidcmhfbkdioaa.bridgeTwice
