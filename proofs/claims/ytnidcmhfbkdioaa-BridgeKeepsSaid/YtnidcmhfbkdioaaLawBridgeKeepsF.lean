/-
  Facts of the program that the row of bridgeKeeps asks for, joined (the kernel's memory). No condition.
-/
import Derived.Test.YtnidcmhfbkdioaaLawBridgeKeepsF1
import Derived.Test.YtnidcmhfbkdioaaLawBridgeKeepsF2
namespace Go.Proofs.Ytnidcmhfbkdioaa.bridgeKeeps
open Go.ChangeShapes Go.WideShapes Go.ChangeAt Go.RowKit
set_option maxRecDepth 100000
theorem factB : joinedFacts Try.pinned.checked.prog 15 Try.f15 Rows.bridgeKeepsSpec Rows.bridgeKeepsRow = true := by
  unfold joinedFacts
  rw [factI, factU, factR, factN]
  kernel_rfl
end Go.Proofs.Ytnidcmhfbkdioaa.bridgeKeeps
