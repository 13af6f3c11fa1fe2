import Derived.Test.YtjdjlcmajeikcaaMvI
import Derived.Test.YtjdjlcmajeikcaaOrd
import Derived.Test.YtjdjlcmajeikcaaEqr
import Derived.Test.YtjdjlcmajeikcaaRc2
import Derived.Test.YtjdjlcmajeikcaaMvB
import Derived.Test.YtjdjlcmajeikcaaMvC
import Derived.Test.YtjdjlcmajeikcaaSa2
namespace Go.Proofs.Ytjdjlcmajeikcaa
open Go Go.Mv
set_option maxRecDepth 8000
instance : Inhabited Rec := ⟨⟨0, 0, fun _ => 0, ⟨#[]⟩, false, fun _ => 0⟩⟩
theorem bd_id0 (w : World) : (Instr.build 25 #[]).run Try.prog w = .ok (idV fun _ => 0) w := by
  simp [Instr.build, Try.zeroValue25, Try.runUnderlying25, Try.sizeOf5, Value.cells, Instr.fill, idV]
end Go.Proofs.Ytjdjlcmajeikcaa
