import Derived.Test.YtaakjgmehbbgfaaGreatDoorRc2
import Derived.Test.YtaakjgmehbbgfaaGreatDoorMvB
namespace Go.Proofs.YtaakjgmehbbgfaaGreatDoor
open Go Go.Mv
set_option maxRecDepth 8000
theorem elU32 : ElI Tryz.prog 34 1 4 (.int .u32 0) := by unfold ElI; kernel_rfl
end Go.Proofs.YtaakjgmehbbgfaaGreatDoor
