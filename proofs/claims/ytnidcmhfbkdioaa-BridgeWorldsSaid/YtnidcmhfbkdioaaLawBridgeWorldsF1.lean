/-
  Facts of the program that the row of bridgeWorlds asks for, a part (the kernel's memory). No condition.
-/
import Derived.ProofKit
import Derived.OpenShut
import Derived.Test.YtnidcmhfbkdioaaRows
namespace Go.Proofs.Ytnidcmhfbkdioaa.bridgeWorlds
open Go.ChangeShapes Go.WideShapes Go.ChangeAt Go.RowKit
set_option maxRecDepth 100000
theorem factI:(Rows.bridgeWorldsRow.inPlace == Try.pinned.checked.prog.inPlace 13)=true:=by kernel_rfl
theorem factN:(Rows.bridgeWorldsRow.named == Try.pinned.checked.prog.varsNamed 13)=true:=by kernel_rfl
end Go.Proofs.Ytnidcmhfbkdioaa.bridgeWorlds
