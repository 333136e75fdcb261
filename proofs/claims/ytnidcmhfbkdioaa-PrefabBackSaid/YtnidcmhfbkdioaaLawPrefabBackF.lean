/-
  The facts of the program that the row of prefabBack asks for, alone (the kernel's memory). No condition.
-/
import Derived.Test.YtnidcmhfbkdioaaRows
import Derived.ProofKit
import Derived.OpenShut
namespace Go.Proofs.Ytnidcmhfbkdioaa.prefabBack
open Go.ChangeShapes Go.WideShapes Go.ChangeAt Go.RowKit
set_option maxRecDepth 100000

theorem factB : joinedFacts Try.pinned.checked.prog 12 Try.f12 Rows.prefabBackSpec Rows.prefabBackRow = true := by kernel_rfl
end Go.Proofs.Ytnidcmhfbkdioaa.prefabBack
