/-
  Where the walk of DelayBounds and the frame meet. No condition.
-/
import Derived.Test.YtnidcmhfbkdioaaDy7
import Derived.Test.YtnidcmhfbkdioaaFo
namespace Go.Proofs.Ytnidcmhfbkdioaa
end Go.Proofs.Ytnidcmhfbkdioaa
