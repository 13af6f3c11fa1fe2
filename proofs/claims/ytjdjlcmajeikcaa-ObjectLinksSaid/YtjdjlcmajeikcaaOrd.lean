import Derived.Test.YtjdjlcmajeikcaaCmp
import Derived.Test.YtjdjlcmajeikcaaMvE
import Derived.Test.YtjdjlcmajeikcaaSrt
namespace Go.Proofs.Ytjdjlcmajeikcaa
open Go Go.Mv
set_option maxRecDepth 8000
theorem cmpI_lt {x y : Int} : Lib.compareInt x y < 0 ↔ x < y := by
  unfold Lib.compareInt; split
  · rename_i h; simp [h]
  · rename_i h; split <;> simp [h]
theorem cmpI_0 {x y : Int} : Lib.compareInt x y = 0 ↔ x = y := by
  unfold Lib.compareInt; split
  · rename_i h; simp; omega
  · split
    · rename_i h; simp; omega
    · simp; omega
theorem orI2 (x y : Int) : orI [x, y] < 0 ↔ x < 0 ∨ (x = 0 ∧ y < 0) := by
  simp only [orI]
  split
  · rename_i h; subst h
    split
    · rename_i h; subst h; simp
    · simp
  · rename_i h; simp [h]
theorem dotCmp_lt {s c s' c' : Int} : dotCmp s c s' c' < 0 ↔ s < s' ∨ (s = s' ∧ c < c') := by
  unfold dotCmp; rw [orI2, cmpI_lt, cmpI_0, cmpI_lt]
def dotK (r : Rec) : Int × Int := (r.s, r.c)
/-- The dots that were met. -/
def MetOk (ds : List (Int × Int)) (l : List (ME (Int × Int) Int)) : Prop := ∀ k, mget k l = if k ∈ ds then some 1 else none
theorem MetOk.nil : MetOk [] [] := fun k => by simp [mget, mpos]
theorem MetOk.get {ds : List (Int × Int)} {l : List (ME (Int × Int) Int)} (h : MetOk ds l) (k : Int × Int) : (mget k l).getD 0 = if k ∈ ds then 1 else 0 := by
  rw [h k]; split <;> rfl
theorem MetOk.put {ds : List (Int × Int)} {l : List (ME (Int × Int) Int)} {c : Nat} (h : MetOk ds l) {k : Int × Int} (hk : k ∉ ds) : MetOk (ds ++ [k]) (mput k ((mget k l).getD 0 + 1) l c).1 := fun k' => by
  rw [mget_put, h.get, if_neg hk]
  by_cases h' : k' = k
  · subst h'; simp
  · rw [if_neg h', h k']; simp [h']

end Go.Proofs.Ytjdjlcmajeikcaa
