/-
  The facts of the program that the row of prefabCounts asks for, alone (the kernel's memory). No condition.
-/
import Derived.Test.YtnidcmhfbkdioaaRows
import Derived.ProofKit
import Derived.OpenShut
namespace Go.Proofs.Ytnidcmhfbkdioaa.prefabCounts
open Go.ChangeShapes Go.WideShapes Go.ChangeAt Go.RowKit
set_option maxRecDepth 100000

theorem factB : joinedFacts Try.pinned.checked.prog 4 Try.f4 Rows.prefabCountsSpec Rows.prefabCountsRow = true := by kernel_rfl
end Go.Proofs.Ytnidcmhfbkdioaa.prefabCounts
