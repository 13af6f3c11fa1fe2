import Derived.Test.YtiefjfcfijcgmaaGreatDoorRc2
import Derived.Test.YtiefjfcfijcgmaaGreatDoorMvB
import Derived.Test.YtiefjfcfijcgmaaGreatDoorEqr
import Derived.Test.YtiefjfcfijcgmaaGreatDoorMvC
namespace Go.Proofs.YtiefjfcfijcgmaaGreatDoor
open Go Go.Mv
set_option maxRecDepth 8000
theorem drop_one {ys : List UInt8} {k j : Nat} (hk : k ≤ ys.length) (hj : j < k) : ∃ c, ys[j]? = some c ∧ (ys.take k).drop j = c :: (ys.take k).drop (j + 1) := by
  have hl : j < (ys.take k).length := by rw [List.length_take]; omega
  refine ⟨ys[j]'(by omega), List.getElem?_eq_getElem (by omega), ?_⟩
  rw [List.drop_eq_getElem_cons hl, List.getElem_take]

end Go.Proofs.YtiefjfcfijcgmaaGreatDoor
