/-
  Facts of the program that the row of bridgeScenes asks for, a part (the kernel's memory). No condition.
-/
import Derived.ProofKit
import Derived.OpenShut
import Derived.Test.YtnidcmhfbkdioaaRows
namespace Go.Proofs.Ytnidcmhfbkdioaa.bridgeScenes
open Go.ChangeShapes Go.WideShapes Go.ChangeAt Go.RowKit
set_option maxRecDepth 100000
theorem factU : (Rows.bridgeScenesRow.unfollowed == Try.pinned.checked.prog.unfollowed 11) = true := by kernel_rfl
theorem factR : (Rows.bridgeScenesRow.recurses == Try.pinned.checked.prog.recurses 11) = true := by kernel_rfl
end Go.Proofs.Ytnidcmhfbkdioaa.bridgeScenes
