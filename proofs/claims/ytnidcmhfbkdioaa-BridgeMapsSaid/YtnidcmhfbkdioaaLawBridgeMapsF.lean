/-
  The facts of the program that the row of bridgeMaps asks for, alone (the kernel's memory). No condition.
-/
import Derived.Test.YtnidcmhfbkdioaaRows
import Derived.ProofKit
import Derived.OpenShut
namespace Go.Proofs.Ytnidcmhfbkdioaa.bridgeMaps
open Go.ChangeShapes Go.WideShapes Go.ChangeAt Go.RowKit
set_option maxRecDepth 100000

theorem factB : joinedFacts Try.pinned.checked.prog 3 Try.f3 Rows.bridgeMapsSpec Rows.bridgeMapsRow = true := by kernel_rfl
end Go.Proofs.Ytnidcmhfbkdioaa.bridgeMaps
