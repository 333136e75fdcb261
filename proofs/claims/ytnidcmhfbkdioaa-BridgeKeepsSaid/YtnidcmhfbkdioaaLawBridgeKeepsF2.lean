/-
  Facts of the program that the row of bridgeKeeps asks for, a part (the kernel's memory). No condition.
-/
import Derived.ProofKit
import Derived.OpenShut
import Derived.Test.YtnidcmhfbkdioaaRows
namespace Go.Proofs.Ytnidcmhfbkdioaa.bridgeKeeps
open Go.ChangeShapes Go.WideShapes Go.ChangeAt Go.RowKit
set_option maxRecDepth 100000
theorem factU : (Rows.bridgeKeepsRow.unfollowed == Try.pinned.checked.prog.unfollowed 15) = true := by kernel_rfl
theorem factR : (Rows.bridgeKeepsRow.recurses == Try.pinned.checked.prog.recurses 15) = true := by kernel_rfl
end Go.Proofs.Ytnidcmhfbkdioaa.bridgeKeeps
