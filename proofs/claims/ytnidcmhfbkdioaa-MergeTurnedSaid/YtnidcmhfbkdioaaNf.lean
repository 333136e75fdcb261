/-
  Where the walk of MergeTurned and the frame meet. No condition.
-/
import Derived.Test.YtnidcmhfbkdioaaNd
import Derived.Test.YtnidcmhfbkdioaaFo
namespace Go.Proofs.Ytnidcmhfbkdioaa
end Go.Proofs.Ytnidcmhfbkdioaa
