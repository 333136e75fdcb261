/-
  Facts of the program that the row of mergeSays asks for, a part (the kernel's memory). No condition.
-/
import Derived.Test.YtnidcmhfbkdioaaRows
import Derived.ProofKit
import Derived.OpenShut
namespace Go.Proofs.Ytnidcmhfbkdioaa.mergeSays
open Go.ChangeShapes Go.WideShapes Go.ChangeAt Go.RowKit
set_option maxRecDepth 100000

theorem factU : (Rows.mergeSaysRow.unfollowed == Try.pinned.checked.prog.unfollowed 5) = true := by kernel_rfl
theorem factR : (Rows.mergeSaysRow.recurses == Try.pinned.checked.prog.recurses 5) = true := by kernel_rfl
end Go.Proofs.Ytnidcmhfbkdioaa.mergeSays
