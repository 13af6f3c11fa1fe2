import Derived.Test.YtaakjgmehbbgfaaGreatDoorCards
import Derived.Test.YtaakjgmehbbgfaaGreatDoorTie
import Derived.Test.YtaakjgmehbbgfaaGreatDoorAlv
import Derived.ProofKit
import Derived.OpenShut
import Derived.Deep.DeepHandedRow
import Derived.WideKeyArgs
import Derived.Lib.LaidTab
import Derived.SevenTiedAt
namespace Go.Proofs.YtaakjgmehbbgfaaGreatDoor
open Go Go.Mv
set_option maxRecDepth 20000
/-- MaxLen's block. -/
theorem gOk_of {W : World} (h : W.ShapedOpen Tryz.prog) : ∃ g, GOk g ∧ Hp [(0, g)] W := by
  obtain ⟨m, hm⟩ := Tryz.laysM219.s1_3 W h
  have hm' : W.cell? ⟨0, 0, none⟩ = some (.int .i64 m) := hm
  simp only [World.cell?] at hm'
  cases hb : W.heap[0]? with
  | none => simp [hb] at hm'
  | some o =>
    cases o <;> simp [hb] at hm'
    rename_i cs t fz
    exact ⟨_, ⟨cs, t, fz, m, rfl, hm'⟩, ⟨by simpa using hb, by simp⟩⟩
end Go.Proofs.YtaakjgmehbbgfaaGreatDoor
