/-
  Facts of the program that the row of bridgeScenes asks for, a part (the kernel's memory). No condition.
-/
import Derived.ProofKit
import Derived.OpenShut
import Derived.Test.YtnidcmhfbkdioaaRows
namespace Go.Proofs.Ytnidcmhfbkdioaa.bridgeScenes
open Go.ChangeShapes Go.WideShapes Go.ChangeAt Go.RowKit
set_option maxRecDepth 100000
theorem factI : (Rows.bridgeScenesRow.inPlace == Try.pinned.checked.prog.inPlace 11) = true := by kernel_rfl
theorem factN : (Rows.bridgeScenesRow.named == Try.pinned.checked.prog.varsNamed 11) = true := by kernel_rfl
end Go.Proofs.Ytnidcmhfbkdioaa.bridgeScenes
