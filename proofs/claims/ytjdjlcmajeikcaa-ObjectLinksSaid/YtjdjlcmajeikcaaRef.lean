import Derived.Test.YtjdjlcmajeikcaaProg
import Derived.Test.YtjdjlcmajeikcaaShl
import Derived.Test.YtjdjlcmajeikcaaMvB
namespace Go.Proofs.Ytjdjlcmajeikcaa
open Go Go.Mv
set_option maxRecDepth 4000
def byteBad (b : UInt8) : Bool := decide (b.toNat < 33) || decide (126 < b.toNat) || decide (0 ≤ Lib.indexByte [126, 94, 58, 63, 42, 91, 92] b)
def byByteB (s : ByteArray) : Bool := s.data.toList.any byteBad
end Go.Proofs.Ytjdjlcmajeikcaa
