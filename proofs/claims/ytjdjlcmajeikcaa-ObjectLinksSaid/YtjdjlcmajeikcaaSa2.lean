import Derived.Test.YtjdjlcmajeikcaaFnc
import Derived.Test.YtjdjlcmajeikcaaSet
namespace Go.Proofs.Ytjdjlcmajeikcaa
open Go Go.Mv
set_option maxRecDepth 8000
def stayL (l : List Rec) (r : Rec) : List Rec := keepL (fun y => outdoesB r y) l
end Go.Proofs.Ytjdjlcmajeikcaa
