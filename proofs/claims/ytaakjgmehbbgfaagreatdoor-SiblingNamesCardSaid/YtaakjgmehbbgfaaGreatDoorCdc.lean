import Derived.Test.YtaakjgmehbbgfaaGreatDoorMvI
import Derived.Test.YtaakjgmehbbgfaaGreatDoorOrd
import Derived.Test.YtaakjgmehbbgfaaGreatDoorEqr
import Derived.Test.YtaakjgmehbbgfaaGreatDoorDd
import Derived.Test.YtaakjgmehbbgfaaGreatDoorAlv
import Derived.Test.YtaakjgmehbbgfaaGreatDoorSne
namespace Go.Proofs.YtaakjgmehbbgfaaGreatDoor
open Go Go.Mv
set_option maxRecDepth 8000
instance : Inhabited Rec := ⟨⟨0, 0, fun _ => 0, ⟨#[]⟩, false, fun _ => 0⟩⟩
def enI (k : IntKind) (x : Int) : List Value := [.int k x]
theorem enI_len (k : IntKind) (x : Int) : (enI k x).length = 1 := rfl
theorem enI_one (k : IntKind) (x : Int) : ∀ v ∈ enI k x, v.oneCell' = true := by intro v hv; simp only [enI, List.mem_cons, List.not_mem_nil, or_false] at hv; subst hv; rfl
theorem put_rec_t0 (q : Rec) (x : Int) : (recV q).cells.setIfInBounds 20 (.int .u8 x) = (recV { q with tip := fun i => if i = 0 then x else q.tip i }).cells := by kernel_rfl
def recZ : Rec := ⟨0, 0, fun _ => 0, ⟨#[]⟩, false, fun _ => 0⟩
theorem bd_recZ (w : World) : (Instr.build 40 #[]).run Tryz.prog w = .ok (recV recZ) w := by
  simp [Instr.build, Tryz.zeroValue40, Tryz.runUnderlying40, Value.cells, Instr.fill, recV, recZ]
theorem bd_id1 (x : Int) (w : World) : (Instr.build 38 #[(0, .int .u8 x)]).run Tryz.prog w = .ok (idV fun i => if i = 0 then x else 0) w := by
  simp [Instr.build, Tryz.zeroValue38, Tryz.runUnderlying38, Tryz.sizeOf5, Value.cells, Instr.fill, idV]
theorem bd_rec23 (s : ByteArray) (b : Bool) (w : World) : (Instr.build 40 #[(2, .string s), (3, .bool b)]).run Tryz.prog w = .ok (recV { recZ with ref := s, has := b }) w := by
  simp [Instr.build, Tryz.zeroValue40, Tryz.runUnderlying40, Tryz.sizeOf33, Tryz.sizeOf36, Tryz.sizeOf9, Tryz.sizeOf4, Tryz.sizeOf38, Value.cells, Instr.fill, recV, recZ]
theorem put_vecl (q : Rec) (l : List Int) (h : l.length ≤ 16) : putL (recV q).cells 2 (cat (enI .u32) l) = (recV { q with ctx := fun i => if i < l.length then l.getD i 0 else q.ctx i }).cells := by
  have hlen : (cat (enI .u32) l).length = l.length := by rw [cat_len (enI_len .u32), Nat.mul_one]
  apply Array.ext'
  apply List.ext_getElem?
  intro i
  have hg := get_putL (cat (enI .u32) l) (recV q).cells 2 i (by rw [hlen]; show 2 + l.length ≤ 52; omega)
  rw [← Array.getElem?_toList] at hg
  rw [hg, hlen]
  split
  · rename_i h1
    obtain ⟨j, rfl⟩ : ∃ j, i = 2 + j := ⟨i - 2, by omega⟩
    have hj : j < l.length := by omega
    have h2 := rec_ctx_at ({ q with ctx := fun i => if i < l.length then l.getD i 0 else q.ctx i } : Rec) (i := j) (by omega)
    rw [← Array.getElem?_toList] at h2
    rw [h2, show 2 + j - 2 = j * 1 + 0 by omega, cat_get (enI_len .u32) l j 0 (l.getD j 0) (by rw [List.getD_eq_getElem?_getD, List.getElem?_eq_getElem hj]; rfl) (by omega)]
    simp [enI, hj]
  · rename_i h1
    by_cases hi : i < 2
    · match i, hi with
      | 0, _ => rfl
      | 1, _ => rfl
    · by_cases hi2 : i < 18
      · obtain ⟨j, rfl⟩ : ∃ j, i = 2 + j := ⟨i - 2, by omega⟩
        have h2 := rec_ctx_at q (i := j) (by omega)
        have h3 := rec_ctx_at ({ q with ctx := fun i => if i < l.length then l.getD i 0 else q.ctx i } : Rec) (i := j) (by omega)
        rw [← Array.getElem?_toList] at h3
        rw [h2, h3]
        simp [show ¬ j < l.length by omega]
      · have hd : (recV q).cells.toList.drop 18 = (recV ({ q with ctx := fun i => if i < l.length then l.getD i 0 else q.ctx i } : Rec)).cells.toList.drop 18 := rfl
        obtain ⟨j, rfl⟩ : ∃ j, i = 18 + j := ⟨i - 18, by omega⟩
        have h4 := congrArg (fun l => l[j]?) hd
        simp only [List.getElem?_drop] at h4
        rw [← Array.getElem?_toList]; exact h4

end Go.Proofs.YtaakjgmehbbgfaaGreatDoor
