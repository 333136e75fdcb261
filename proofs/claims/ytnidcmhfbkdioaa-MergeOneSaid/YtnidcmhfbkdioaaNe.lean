/-
  Where the walk of MergeOne and the frame meet. No condition.
-/
import Derived.Test.YtnidcmhfbkdioaaNb
import Derived.Test.YtnidcmhfbkdioaaFo
namespace Go.Proofs.Ytnidcmhfbkdioaa
end Go.Proofs.Ytnidcmhfbkdioaa
