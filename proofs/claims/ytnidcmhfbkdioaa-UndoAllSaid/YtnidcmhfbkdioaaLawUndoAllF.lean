/-
  The facts of the program that the row of undoAll asks for, joined. No condition.
-/
import Derived.Test.YtnidcmhfbkdioaaLawUndoAllF1
import Derived.Test.YtnidcmhfbkdioaaLawUndoAllF2
import Derived.Test.YtnidcmhfbkdioaaLawUndoAllF3
namespace Go.Proofs.Ytnidcmhfbkdioaa.undoAll
open Go.ChangeShapes Go.WideShapes Go.ChangeAt Go.RowKit
set_option maxRecDepth 100000

theorem factB : joinedFacts Try.pinned.checked.prog 17 Try.f17 Rows.undoAllSpec Rows.undoAllRow = true := by
  unfold joinedFacts
  rw [factI, factU, factR, factN]
  kernel_rfl
end Go.Proofs.Ytnidcmhfbkdioaa.undoAll
