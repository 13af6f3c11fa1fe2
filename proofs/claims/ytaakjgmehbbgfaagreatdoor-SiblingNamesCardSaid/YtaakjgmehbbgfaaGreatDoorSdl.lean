import Derived.Test.YtaakjgmehbbgfaaGreatDoorApf
import Derived.Test.YtaakjgmehbbgfaaGreatDoorSlw
import Derived.Test.YtaakjgmehbbgfaaGreatDoorRow
import Derived.Test.YtaakjgmehbbgfaaGreatDoorOrd
import Derived.ChangeSlices
namespace Go.Proofs.YtaakjgmehbbgfaaGreatDoor
open Go Go.Mv
set_option maxRecDepth 8000
structure SibOk (L : List Rec) : Prop where
  srt : Srt L
  ok : ∀ x ∈ L, RecOk x
  chk : ∀ x ∈ L, recOkB x = true
  ref : ∀ x ∈ L, x.ref = ⟨#[97]⟩
theorem SibOk.nil : SibOk [] := ⟨List.Pairwise.nil, by simp, by simp, by simp⟩
end Go.Proofs.YtaakjgmehbbgfaaGreatDoor
