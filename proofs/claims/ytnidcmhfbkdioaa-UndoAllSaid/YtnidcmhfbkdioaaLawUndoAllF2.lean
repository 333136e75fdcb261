/-
  Facts of the program that the row of undoAll asks for, a part (the kernel's memory). No condition.
-/
import Derived.Test.YtnidcmhfbkdioaaRows
import Derived.ProofKit
import Derived.OpenShut
namespace Go.Proofs.Ytnidcmhfbkdioaa.undoAll
open Go.ChangeShapes Go.WideShapes Go.ChangeAt Go.RowKit
set_option maxRecDepth 100000

theorem factU : (Rows.undoAllRow.unfollowed == Try.pinned.checked.prog.unfollowed 17) = true := by kernel_rfl
theorem factR : (Rows.undoAllRow.recurses == Try.pinned.checked.prog.recurses 17) = true := by kernel_rfl
end Go.Proofs.Ytnidcmhfbkdioaa.undoAll
