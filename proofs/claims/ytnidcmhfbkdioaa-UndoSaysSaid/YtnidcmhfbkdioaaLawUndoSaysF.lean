/-
  The facts of the program that the row of undoSays asks for, joined. No condition.
-/
import Derived.Test.YtnidcmhfbkdioaaLawUndoSaysF1
import Derived.Test.YtnidcmhfbkdioaaLawUndoSaysF2
namespace Go.Proofs.Ytnidcmhfbkdioaa.undoSays
open Go.ChangeShapes Go.WideShapes Go.ChangeAt Go.RowKit
set_option maxRecDepth 100000

theorem factB : joinedFacts Try.pinned.checked.prog 18 Try.f18 Rows.undoSaysSpec Rows.undoSaysRow = true := by
  unfold joinedFacts
  rw [factI, factU, factR, factN]
  kernel_rfl
end Go.Proofs.Ytnidcmhfbkdioaa.undoSays
