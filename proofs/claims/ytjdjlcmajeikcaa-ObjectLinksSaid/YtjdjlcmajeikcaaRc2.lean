import Derived.Test.YtjdjlcmajeikcaaRec
namespace Go.Proofs.Ytjdjlcmajeikcaa
open Go Go.Mv
set_option maxRecDepth 8000
def aheadB (a b : Rec) : Bool := vHas b.ctx a.s a.c
def outdoesB (a b : Rec) : Bool := decide (a.ref = b.ref) && aheadB b a
end Go.Proofs.Ytjdjlcmajeikcaa
