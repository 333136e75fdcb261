/-
  Facts of the program that the row of bridgeWorlds asks for, a part (the kernel's memory). No condition.
-/
import Derived.ProofKit
import Derived.OpenShut
import Derived.Test.YtnidcmhfbkdioaaRows
namespace Go.Proofs.Ytnidcmhfbkdioaa.bridgeWorlds
open Go.ChangeShapes Go.WideShapes Go.ChangeAt Go.RowKit
set_option maxRecDepth 100000
theorem factU:(Rows.bridgeWorldsRow.unfollowed == Try.pinned.checked.prog.unfollowed 13)=true:=by kernel_rfl
theorem factR:(Rows.bridgeWorldsRow.recurses == Try.pinned.checked.prog.recurses 13)=true:=by kernel_rfl
end Go.Proofs.Ytnidcmhfbkdioaa.bridgeWorlds
