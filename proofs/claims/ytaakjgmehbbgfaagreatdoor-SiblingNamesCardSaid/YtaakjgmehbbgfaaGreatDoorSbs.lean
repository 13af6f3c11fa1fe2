import Derived.Test.YtaakjgmehbbgfaaGreatDoorSib
namespace Go.Proofs.YtaakjgmehbbgfaaGreatDoor
open Go Go.Mv
set_option maxRecDepth 8000
theorem nodup_len {α : Type} [DecidableEq α] : ∀ {xs l : List α}, xs.Nodup → (∀ x ∈ xs, x ∈ l) → xs.length ≤ l.length
  | [], _, _, _ => Nat.zero_le _
  | x :: xs, l, h, hs => by
    have hx := hs x List.mem_cons_self
    rw [List.nodup_cons] at h
    have h1 := nodup_len (l := l.erase x) h.2 (fun y hy => (List.mem_erase_of_ne (fun he => h.1 (by rw [← he]; exact hy))).2 (hs y (List.mem_cons_of_mem _ hy)))
    rw [List.length_erase_of_mem hx] at h1
    have := List.length_pos_of_mem hx
    simp only [List.length_cons]; omega
theorem setOf_len {l xs : List (Nat → Int)} (h : SetOf l xs) : xs.length ≤ l.length := by
  have : DecidableEq (Nat → Int) := fun a b => Classical.propDecidable (a = b)
  exact nodup_len (srt_nodup h.1) fun x hx => (h.2 x).1 hx

end Go.Proofs.YtaakjgmehbbgfaaGreatDoor
