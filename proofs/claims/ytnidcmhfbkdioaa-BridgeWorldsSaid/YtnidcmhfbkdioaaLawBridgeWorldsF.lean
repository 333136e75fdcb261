/-
  Facts of the program that the row of bridgeWorlds asks for, joined (the kernel's memory). No condition.
-/
import Derived.Test.YtnidcmhfbkdioaaLawBridgeWorldsF1
import Derived.Test.YtnidcmhfbkdioaaLawBridgeWorldsF2
namespace Go.Proofs.Ytnidcmhfbkdioaa.bridgeWorlds
open Go.ChangeShapes Go.WideShapes Go.ChangeAt Go.RowKit
set_option maxRecDepth 100000
theorem factB:joinedFacts Try.pinned.checked.prog 13 Try.f13 Rows.bridgeWorldsSpec Rows.bridgeWorldsRow=true:=by
 unfold joinedFacts
 rw [factI,factU,factR,factN]
 kernel_rfl
end Go.Proofs.Ytnidcmhfbkdioaa.bridgeWorlds
