/-
  Facts of the program that the row of bridgeTwice asks for, a part (the kernel's memory). No condition.
-/
import Derived.ProofKit
import Derived.OpenShut
import Derived.Test.YtnidcmhfbkdioaaRows
namespace Go.Proofs.Ytnidcmhfbkdioaa.bridgeTwice
open Go.ChangeShapes Go.WideShapes Go.ChangeAt Go.RowKit
set_option maxRecDepth 100000
theorem factU : (Rows.bridgeTwiceRow.unfollowed == Try.pinned.checked.prog.unfollowed 16) = true := by kernel_rfl
theorem factR : (Rows.bridgeTwiceRow.recurses == Try.pinned.checked.prog.recurses 16) = true := by kernel_rfl
end Go.Proofs.Ytnidcmhfbkdioaa.bridgeTwice
