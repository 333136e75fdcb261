/-
  Facts of the program that the row of undoAll asks for, a part (the kernel's memory). No condition.
-/
import Derived.Test.YtnidcmhfbkdioaaRows
import Derived.ProofKit
import Derived.OpenShut
namespace Go.Proofs.Ytnidcmhfbkdioaa.undoAll
open Go.ChangeShapes Go.WideShapes Go.ChangeAt Go.RowKit
set_option maxRecDepth 100000

theorem factN : (Rows.undoAllRow.named == Try.pinned.checked.prog.varsNamed 17) = true := by kernel_rfl
end Go.Proofs.Ytnidcmhfbkdioaa.undoAll
