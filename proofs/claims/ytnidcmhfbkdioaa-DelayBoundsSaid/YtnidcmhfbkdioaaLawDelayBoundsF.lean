/-
  The facts of the program that the row of delayBounds asks for, alone (the kernel's memory). No condition.
-/
import Derived.Test.YtnidcmhfbkdioaaRows
import Derived.ProofKit
import Derived.OpenShut
namespace Go.Proofs.Ytnidcmhfbkdioaa.delayBounds
open Go.ChangeShapes Go.WideShapes Go.ChangeAt Go.RowKit
set_option maxRecDepth 100000

theorem factB : joinedFacts Try.pinned.checked.prog 10 Try.f10 Rows.delayBoundsSpec Rows.delayBoundsRow = true := by kernel_rfl
end Go.Proofs.Ytnidcmhfbkdioaa.delayBounds
