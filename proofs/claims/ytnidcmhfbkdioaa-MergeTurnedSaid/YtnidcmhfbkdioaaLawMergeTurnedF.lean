/-
  The facts of the program that the row of mergeTurned asks for, alone (the kernel's memory). No condition.
-/
import Derived.Test.YtnidcmhfbkdioaaRows
import Derived.ProofKit
import Derived.OpenShut
namespace Go.Proofs.Ytnidcmhfbkdioaa.mergeTurned
open Go.ChangeShapes Go.WideShapes Go.ChangeAt Go.RowKit
set_option maxRecDepth 100000

theorem factB : joinedFacts Try.pinned.checked.prog 7 Try.f7 Rows.mergeTurnedSpec Rows.mergeTurnedRow = true := by kernel_rfl
end Go.Proofs.Ytnidcmhfbkdioaa.mergeTurned
