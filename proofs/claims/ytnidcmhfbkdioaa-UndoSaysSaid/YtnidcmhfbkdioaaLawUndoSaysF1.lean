/-
  Facts of the program that the row of undoSays asks for, a part (the kernel's memory). No condition.
-/
import Derived.Test.YtnidcmhfbkdioaaRows
import Derived.ProofKit
import Derived.OpenShut
namespace Go.Proofs.Ytnidcmhfbkdioaa.undoSays
open Go.ChangeShapes Go.WideShapes Go.ChangeAt Go.RowKit
set_option maxRecDepth 100000

theorem factI : (Rows.undoSaysRow.inPlace == Try.pinned.checked.prog.inPlace 18) = true := by kernel_rfl
theorem factN : (Rows.undoSaysRow.named == Try.pinned.checked.prog.varsNamed 18) = true := by kernel_rfl
end Go.Proofs.Ytnidcmhfbkdioaa.undoSays
