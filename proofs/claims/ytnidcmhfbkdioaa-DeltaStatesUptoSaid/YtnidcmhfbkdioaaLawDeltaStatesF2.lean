/-
  Facts of the program that the row of deltaStates asks for, a part (the kernel's memory). No condition.
-/
import Derived.Test.YtnidcmhfbkdioaaRows
import Derived.ProofKit
import Derived.OpenShut
namespace Go.Proofs.Ytnidcmhfbkdioaa.deltaStates
open Go.ChangeShapes Go.WideShapes Go.ChangeAt Go.RowKit
set_option maxRecDepth 100000

theorem factU : (Rows.deltaStatesUptoRow.unfollowed == Try.pinned.checked.prog.unfollowed 8) = true := by kernel_rfl
theorem factR : (Rows.deltaStatesUptoRow.recurses == Try.pinned.checked.prog.recurses 8) = true := by kernel_rfl
end Go.Proofs.Ytnidcmhfbkdioaa.deltaStates
