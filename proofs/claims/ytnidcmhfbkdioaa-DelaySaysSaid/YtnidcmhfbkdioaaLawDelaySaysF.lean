/-
  The facts of the program that the row of delaySays asks for, alone (the kernel's memory). No condition.
-/
import Derived.Test.YtnidcmhfbkdioaaRows
import Derived.ProofKit
import Derived.OpenShut
namespace Go.Proofs.Ytnidcmhfbkdioaa.delaySays
open Go.ChangeShapes Go.WideShapes Go.ChangeAt Go.RowKit
set_option maxRecDepth 100000

theorem factB : joinedFacts Try.pinned.checked.prog 9 Try.f9 Rows.delaySaysSpec Rows.delaySaysRow = true := by kernel_rfl
end Go.Proofs.Ytnidcmhfbkdioaa.delaySays
