import Derived.Test.YtjdjlcmajeikcaaProg
import Derived.Test.YtjdjlcmajeikcaaMvA
namespace Go.Proofs.Ytjdjlcmajeikcaa
open Go Go.Mv
def dotOk (s c : Int) : Bool := decide (0 ≤ s ∧ s < 16 ∧ 1 ≤ c ∧ c ≤ 4294967295)
theorem dotOk_iff {s c : Int} : dotOk s c = true ↔ 0 ≤ s ∧ s < 16 ∧ 1 ≤ c ∧ c ≤ 4294967295 := by simp [dotOk]
/-- P6.1 -/
def vHas (v : Nat → Int) (s c : Int) : Bool := dotOk s c && decide (c ≤ v s.toNat)

end Go.Proofs.Ytjdjlcmajeikcaa
