import Derived.Test.YtaakjgmehbbgfaaGreatDoorApf
import Derived.Test.YtaakjgmehbbgfaaGreatDoorSlw
import Derived.Test.YtaakjgmehbbgfaaGreatDoorRowR
namespace Go.Proofs.YtaakjgmehbbgfaaGreatDoor
open Go Go.Mv
set_option maxRecDepth 8000
structure SibOk (L : List Rec) : Prop where
  srt : Srt L
  ok : ∀ x ∈ L, RecOk x
  chk : ∀ x ∈ L, recOkB x = true
  ref : ∀ x ∈ L, x.ref = ⟨#[97]⟩
theorem SibOk.nil : SibOk [] := ⟨List.Pairwise.nil, by simp, by simp, by simp⟩
theorem SibOk.ap {L : List Rec} {r : Rec} (h : SibOk L) (hr : RecOk r) : SibOk (apL ⟨#[97]⟩ L r) :=
  ⟨apL_srt h.srt, fun x hx => by rcases apL_mem hx with h1 | ⟨rfl, _, _⟩; exact h.ok x h1; exact hr, fun x hx => by rcases apL_mem hx with h1 | ⟨rfl, h2, _⟩; exact h.chk x h1; exact h2,
    fun x hx => by rcases apL_mem hx with h1 | ⟨rfl, _, h3⟩; exact h.ref x h1; exact h3⟩
theorem apE_bad {ref : ByteArray} {l : List Rec} {r : Rec} (h : ¬ apE ref l r = 0) : apL ref l r = l := by
  unfold apE at h; unfold apL
  split at h
  · rename_i hb; rw [if_pos hb]
  · exact absurd rfl h
end Go.Proofs.YtaakjgmehbbgfaaGreatDoor
