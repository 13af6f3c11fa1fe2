import Derived.Test.YtaakjgmehbbgfaaGreatDoorSdl
namespace Go.Proofs.YtaakjgmehbbgfaaGreatDoor
open Go Go.Mv
set_option maxRecDepth 8000
def ApartL (L : List Rec) : Prop := ∀ x ∈ L, ∀ y ∈ L, outdoesB x y = false
theorem ApartL.nil : ApartL [] := by intro x hx; cases hx
end Go.Proofs.YtaakjgmehbbgfaaGreatDoor
