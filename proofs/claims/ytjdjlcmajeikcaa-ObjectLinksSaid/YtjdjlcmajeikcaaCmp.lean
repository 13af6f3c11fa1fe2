import Derived.Test.YtjdjlcmajeikcaaRc2
import Derived.Test.YtjdjlcmajeikcaaMvF
namespace Go.Proofs.Ytjdjlcmajeikcaa
open Go Go.Mv
set_option maxRecDepth 8000
/-- The first one that is not 0. -/
def orI : List Int → Int
  | [] => 0
  | x :: r => if x = 0 then orI r else x
def dotCmp (s c s' c' : Int) : Int := orI [Lib.compareInt s s', Lib.compareInt c c']
end Go.Proofs.Ytjdjlcmajeikcaa
