/-
  Where the walks of the delay's laws and the frame meet. No condition.
-/
import Derived.Test.YtnidcmhfbkdioaaDy6
import Derived.Test.YtnidcmhfbkdioaaFo
namespace Go.Proofs.Ytnidcmhfbkdioaa
end Go.Proofs.Ytnidcmhfbkdioaa
