import Derived.Test.YtjdjlcmajeikcaaRc2
import Derived.Test.YtjdjlcmajeikcaaMvB
import Derived.Test.YtjdjlcmajeikcaaEqr
import Derived.Test.YtjdjlcmajeikcaaMvC
namespace Go.Proofs.Ytjdjlcmajeikcaa
open Go Go.Mv
set_option maxRecDepth 8000
theorem elByteR : ElI Try.prog 5 1 1 (.int .u8 0) := by unfold ElI; kernel_rfl
end Go.Proofs.Ytjdjlcmajeikcaa
