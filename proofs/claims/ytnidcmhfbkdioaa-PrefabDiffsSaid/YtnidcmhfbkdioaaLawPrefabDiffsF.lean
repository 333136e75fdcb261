/-
  The facts of the program that the row of prefabDiffs asks for, alone (the kernel's memory). No condition.
-/
import Derived.Test.YtnidcmhfbkdioaaRows
import Derived.ProofKit
import Derived.OpenShut
namespace Go.Proofs.Ytnidcmhfbkdioaa.prefabDiffs
open Go.ChangeShapes Go.WideShapes Go.ChangeAt Go.RowKit
set_option maxRecDepth 100000

theorem factB : joinedFacts Try.pinned.checked.prog 14 Try.f14 Rows.prefabDiffsSpec Rows.prefabDiffsRow = true := by kernel_rfl
end Go.Proofs.Ytnidcmhfbkdioaa.prefabDiffs
