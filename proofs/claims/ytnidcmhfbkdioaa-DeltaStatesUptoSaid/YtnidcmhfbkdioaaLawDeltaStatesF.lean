/-
  Facts of the program that the row of deltaStates asks for, joined (the kernel's memory). No condition.
-/
import Derived.Test.YtnidcmhfbkdioaaLawDeltaStatesF1
import Derived.Test.YtnidcmhfbkdioaaLawDeltaStatesF2
namespace Go.Proofs.Ytnidcmhfbkdioaa.deltaStates
open Go.ChangeShapes Go.WideShapes Go.ChangeAt Go.RowKit
set_option maxRecDepth 100000

theorem factB : joinedFacts Try.pinned.checked.prog 8 Try.f8 (Rows.OpenSpec.upto Rows.deltaStatesSpec).bare Rows.deltaStatesUptoRow = true := by
  unfold joinedFacts
  rw [factI, factU, factR, factN]
  kernel_rfl
end Go.Proofs.Ytnidcmhfbkdioaa.deltaStates
