import Derived.Test.YtjdjlcmajeikcaaOrd
import Derived.Test.YtjdjlcmajeikcaaEqr
import Derived.Test.YtjdjlcmajeikcaaRf4
import Derived.Test.YtjdjlcmajeikcaaMvC
import Derived.Test.YtjdjlcmajeikcaaR1
import Derived.Test.YtjdjlcmajeikcaaRc2
import Derived.Test.YtjdjlcmajeikcaaMvB
import Derived.Test.YtjdjlcmajeikcaaMvG
namespace Go.Proofs.Ytjdjlcmajeikcaa
open Go Go.Mv
set_option maxRecDepth 8000
/-- Where a list has the first such one. -/
def IdxF (p : Rec → Bool) (l : List Rec) (n : Int) : Prop := (n = -1 ∧ ∀ x ∈ l, p x = false) ∨ ∃ (i : Nat) (x : Rec), n = i ∧ l[i]? = some x ∧ p x = true ∧ ∀ (j : Nat) (y : Rec), j < i → l[j]? = some y → p y = false
theorem IdxF.any {p : Rec → Bool} {l : List Rec} {n : Int} (h : IdxF p l n) : decide (n ≥ 0) = l.any p := by
  rcases h with ⟨rfl, h⟩ | ⟨i, x, rfl, hx, hp, _⟩
  · rw [List.any_eq_false.2 (fun x hx => by simp [h x hx])]; rfl
  · rw [List.any_eq_true.2 ⟨x, List.mem_of_getElem? hx, hp⟩]; exact decide_eq_true (by omega)

def keepL (p : Rec → Bool) (l : List Rec) : List Rec := l.filter fun x => !p x
end Go.Proofs.Ytjdjlcmajeikcaa
