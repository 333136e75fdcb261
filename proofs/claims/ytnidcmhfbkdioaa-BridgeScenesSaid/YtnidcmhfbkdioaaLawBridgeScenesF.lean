/-
  Facts of the program that the row of bridgeScenes asks for, joined (the kernel's memory). No condition.
-/
import Derived.Test.YtnidcmhfbkdioaaLawBridgeScenesF1
import Derived.Test.YtnidcmhfbkdioaaLawBridgeScenesF2
namespace Go.Proofs.Ytnidcmhfbkdioaa.bridgeScenes
open Go.ChangeShapes Go.WideShapes Go.ChangeAt Go.RowKit
set_option maxRecDepth 100000
theorem factB : joinedFacts Try.pinned.checked.prog 11 Try.f11 Rows.bridgeScenesSpec Rows.bridgeScenesRow = true := by
  unfold joinedFacts
  rw [factI, factU, factR, factN]
  kernel_rfl
end Go.Proofs.Ytnidcmhfbkdioaa.bridgeScenes
