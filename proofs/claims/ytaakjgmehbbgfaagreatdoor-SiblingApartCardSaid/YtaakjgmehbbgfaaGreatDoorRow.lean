import Derived.Test.YtaakjgmehbbgfaaGreatDoorCards
import Derived.Test.YtaakjgmehbbgfaaGreatDoorTie
import Derived.Test.YtaakjgmehbbgfaaGreatDoorSit
import Derived.ProofKit
import Derived.OpenShut
import Derived.Deep.DeepHandedRow
import Derived.WideKeyArgs
import Derived.Lib.LaidTab
import Derived.SevenTiedAt
namespace Go.Proofs.YtaakjgmehbbgfaaGreatDoor
open Go Go.Mv
set_option maxRecDepth 20000
theorem recTs_cells : Tryz.prog.cellsOf 40 = 52 := by kernel_rfl
def intAt (cs : Array Value) (i : Nat) : Int := match cs[i]? with | some (.int _ n) => n | _ => 0
def strAt (cs : Array Value) (i : Nat) : ByteArray := match cs[i]? with | some (.string s) => s | _ => ⟨#[]⟩
def boolAt (cs : Array Value) (i : Nat) : Bool := match cs[i]? with | some (.bool b) => b | _ => false
def recOf (cs : Array Value) : Rec := ⟨intAt cs 0, intAt cs 1, fun i => bif Nat.blt i 16 then intAt cs (2 + i) else 0, strAt cs 18, boolAt cs 19, fun i => bif Nat.blt i 32 then intAt cs (20 + i) else 0⟩
theorem has_i64 {n : Int} (h : IntKind.i64.has n) : i64Ok n := by simpa [IntKind.has, IntKind.min, IntKind.max, i64Ok, IntKind.signed, IntKind.bits] using h
theorem has_u32 {n : Int} (h : IntKind.u32.has n) : 0 ≤ n ∧ n ≤ 4294967295 := by simpa [IntKind.has, IntKind.min, IntKind.max, IntKind.signed, IntKind.bits] using h
theorem has_u8 {n : Int} (h : IntKind.u8.has n) : 0 ≤ n ∧ n ≤ 255 := by simpa [IntKind.has, IntKind.min, IntKind.max, IntKind.signed, IntKind.bits] using h
theorem rec_cells {cs : Array Value} (hsz : cs.size = 52) (int64 : ∀ i, i < 2 → ∃ n, cs[i]? = some (.int .i64 n) ∧ i64Ok n) (int32 : ∀ i, i < 16 → ∃ n, cs[2 + i]? = some (.int .u32 n) ∧ 0 ≤ n ∧ n ≤ 4294967295) (int8 : ∀ i, i < 32 → ∃ n, cs[20 + i]? = some (.int .u8 n) ∧ 0 ≤ n ∧ n ≤ 255)
    {s : ByteArray} {b : Bool} (hs1 : cs[18]? = some (.string s)) (hb1 : cs[19]? = some (.bool b)) : ∃ x, cs = (recV x).cells ∧ RecOk x := by
  refine ⟨recOf cs, ?_, ?_⟩
  · have key : cs = (recV (recOf cs)).cells := by
      apply Array.ext_getElem?
      intro i
      by_cases h1 : i < 2
      · obtain ⟨n, hn, _⟩ := int64 i h1
        have : i = 0 ∨ i = 1 := by omega
        rcases this with rfl | rfl
        · rw [hn]; show _ = some (Value.int .i64 (intAt cs 0)); simp only [intAt, hn]
        · rw [hn]; show _ = some (Value.int .i64 (intAt cs 1)); simp only [intAt, hn]
      by_cases h2 : i < 18
      · obtain ⟨j, hj, rfl⟩ : ∃ j, j < 16 ∧ i = 2 + j := ⟨i - 2, by omega, by omega⟩
        obtain ⟨n, hn, _⟩ := int32 j hj
        rw [hn, rec_ctx_at _ hj]
        simp only [recOf, show Nat.blt j 16 = true by simpa using hj, cond_true, intAt, hn]
      by_cases h3 : i = 18
      · subst h3; rw [hs1]; show _ = some (Value.string (strAt cs 18)); simp only [strAt, hs1]
      by_cases h4 : i = 19
      · subst h4; rw [hb1]; show _ = some (Value.bool (boolAt cs 19)); simp only [boolAt, hb1]
      by_cases h5 : i < 52
      · obtain ⟨j, hj, rfl⟩ : ∃ j, j < 32 ∧ i = 20 + j := ⟨i - 20, by omega, by omega⟩
        obtain ⟨n, hn, _⟩ := int8 j hj
        rw [hn, rec_tip_at _ hj]
        simp only [recOf, show Nat.blt j 32 = true by simpa using hj, cond_true, intAt, hn]
      · have e1 : (recV (recOf cs)).cells.size = 52 := rfl
        rw [Array.getElem?_eq_none (by omega), Array.getElem?_eq_none (by omega)]
    exact key
  · refine ⟨?_, ?_, fun i => ?_, fun i => ?_⟩
    · obtain ⟨n, hn, h⟩ := int64 0 (by omega); simpa only [recOf, intAt, hn] using h
    · obtain ⟨n, hn, h⟩ := int64 1 (by omega); simpa only [recOf, intAt, hn] using h
    · simp only [recOf]
      cases hb : Nat.blt i 16
      · simp
      · obtain ⟨n, hn, h⟩ := int32 i (by simpa using hb); simpa only [cond_true, intAt, hn] using h
    · simp only [recOf]
      cases hb : Nat.blt i 32
      · simp
      · obtain ⟨n, hn, h⟩ := int8 i (by simpa using hb); simpa only [cond_true, intAt, hn] using h

/-- MaxLen's block. -/
theorem gOk_of {W : World} (h : W.ShapedOpen Tryz.prog) : ∃ g, GOk g ∧ Hp [(0, g)] W := by
  obtain ⟨m, hm⟩ := Tryz.laysM219.s1_3 W h
  have hm' : W.cell? ⟨0, 0, none⟩ = some (.int .i64 m) := hm
  simp only [World.cell?] at hm'
  cases hb : W.heap[0]? with
  | none => simp [hb] at hm'
  | some o =>
    cases o <;> simp [hb] at hm'
    rename_i cs t fz
    exact ⟨_, ⟨cs, t, fz, m, rfl, hm'⟩, ⟨by simpa using hb, by simp⟩⟩
end Go.Proofs.YtaakjgmehbbgfaaGreatDoor
