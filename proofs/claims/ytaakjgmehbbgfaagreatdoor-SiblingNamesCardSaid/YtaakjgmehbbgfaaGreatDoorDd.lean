import Derived.Test.YtaakjgmehbbgfaaGreatDoorRc2
import Derived.Test.YtaakjgmehbbgfaaGreatDoorMvB
import Derived.Test.YtaakjgmehbbgfaaGreatDoorEqr
import Derived.Test.YtaakjgmehbbgfaaGreatDoorMvC
namespace Go.Proofs.YtaakjgmehbbgfaaGreatDoor
open Go Go.Mv
set_option maxRecDepth 8000
theorem bd_dot (a b : Int) (w : World) : (Instr.build 33 #[(0, .int .i64 a), (1, .int .i64 b)]).run Tryz.prog w = .ok (dotV a b) w := by
  simp [Instr.build, Tryz.zeroValue33, Tryz.runUnderlying33, Tryz.sizeOf3, Value.cells, Instr.fill, dotV]
end Go.Proofs.YtaakjgmehbbgfaaGreatDoor
