/-
  The facts of the program that the row of mergeSays asks for, joined. No condition.
-/
import Derived.Test.YtnidcmhfbkdioaaLawMergeSaysF1
import Derived.Test.YtnidcmhfbkdioaaLawMergeSaysF2
import Derived.Test.YtnidcmhfbkdioaaLawMergeSaysF3
namespace Go.Proofs.Ytnidcmhfbkdioaa.mergeSays
open Go.ChangeShapes Go.WideShapes Go.ChangeAt Go.RowKit
set_option maxRecDepth 100000

theorem factB : joinedFacts Try.pinned.checked.prog 5 Try.f5 Rows.mergeSaysSpec Rows.mergeSaysRow = true := by
  unfold joinedFacts
  rw [factI, factU, factR, factN]
  kernel_rfl
end Go.Proofs.Ytnidcmhfbkdioaa.mergeSays
