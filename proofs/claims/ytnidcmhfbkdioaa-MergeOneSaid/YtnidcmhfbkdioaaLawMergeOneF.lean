/-
  The facts of the program that the row of mergeOne asks for, alone (the kernel's memory). No condition.
-/
import Derived.Test.YtnidcmhfbkdioaaRows
import Derived.ProofKit
import Derived.OpenShut
namespace Go.Proofs.Ytnidcmhfbkdioaa.mergeOne
open Go.ChangeShapes Go.WideShapes Go.ChangeAt Go.RowKit
set_option maxRecDepth 100000

theorem factB : joinedFacts Try.pinned.checked.prog 6 Try.f6 Rows.mergeOneSpec Rows.mergeOneRow = true := by kernel_rfl
end Go.Proofs.Ytnidcmhfbkdioaa.mergeOne
