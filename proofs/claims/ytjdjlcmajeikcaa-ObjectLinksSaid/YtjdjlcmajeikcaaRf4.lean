import Derived.Test.YtjdjlcmajeikcaaRf2
import Derived.Test.YtjdjlcmajeikcaaMvB
namespace Go.Proofs.Ytjdjlcmajeikcaa
open Go Go.Mv
set_option maxRecDepth 4000
def brk (n : Int) (s : ByteArray) : Bool := bif decide (n = 1) then pLong s else bif decide (n = 2) then byByteB s else bif decide (n = 3) then pPart pEmpty s else bif decide (n = 4) then pPart pDot s else bif decide (n = 5) then pHas ⟨#[46, 46]⟩ s else bif decide (n = 6) then pPart pLock s else bif decide (n = 7) then pEnd s else pHas ⟨#[64, 123]⟩ s
/-- P4.1: the first rule that a name breaks. -/
def breaksN (s : ByteArray) : Int := (([1, 2, 3, 4, 5, 6, 7, 8] : List Int).find? fun n => brk n s).getD 0
end Go.Proofs.Ytjdjlcmajeikcaa
