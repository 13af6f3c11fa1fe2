import Derived.Test.YtaakjgmehbbgfaaGreatDoorSld
namespace Go.Proofs.YtaakjgmehbbgfaaGreatDoor
open Go Go.Mv
set_option maxRecDepth 8000
theorem bldVx_cells {α : Type} (l : List α) (st : SnkS) : (bldVx l st).cells.toList = [bldVx l st] := by
  rcases st with _ | ⟨b, c, tl⟩ <;> rfl
theorem bldVx_one {α : Type} (l : List α) (st : SnkS) : (bldVx l st).oneCell' = true := by
  rcases st with _ | ⟨b, c, tl⟩ <;> rfl

end Go.Proofs.YtaakjgmehbbgfaaGreatDoor
