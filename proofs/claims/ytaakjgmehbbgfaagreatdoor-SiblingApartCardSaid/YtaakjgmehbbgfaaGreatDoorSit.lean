import Derived.Test.YtaakjgmehbbgfaaGreatDoorAlv
namespace Go.Proofs.YtaakjgmehbbgfaaGreatDoor
open Go Go.Mv
set_option maxRecDepth 8000
theorem recOk_parts {r : Rec} (h : recOkB r = true) : dotOk r.s r.c = true ∧ r.ctx r.s.toNat = r.c - 1 := by
  simp only [recOkB, Bool.and_eq_true, decide_eq_true_eq] at h
  exact ⟨h.1.1.1, h.1.1.2⟩
theorem ahead_self {a : Rec} (h : recOkB a = true) : aheadB a a = false := by
  have h2 := (recOk_parts h).2
  simp only [aheadB, vHas, h2]
  rw [show decide (a.c ≤ a.c - 1) = false from by simp; omega]
  simp
theorem outdoes_self {a : Rec} (h : recOkB a = true) : outdoesB a a = false := by
  simp only [outdoesB, ahead_self h, Bool.and_false]
end Go.Proofs.YtaakjgmehbbgfaaGreatDoor
