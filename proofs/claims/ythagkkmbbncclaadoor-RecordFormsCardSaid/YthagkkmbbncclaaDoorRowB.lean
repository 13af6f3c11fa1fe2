import Derived.Test.YthagkkmbbncclaaDoorRow
import Derived.Test.YthagkkmbbncclaaDoorMvC
import Derived.ChangeSlices
namespace Go.Proofs.YthagkkmbbncclaaDoor
open Go Go.Mv Go.ChangeShapes
set_option maxRecDepth 100000

theorem cells_u8' : Tryd.prog.cellsOf 5 = 1 := by kernel_rfl

/-- Bytes that come in. -/
theorem open_bytes {H : Type} {enc : TypeId × Value → H} {W : World} {r : Reach} {b0 : Nat} {v : Value} {d : DataW H} {p : List MemPlace} {g : Obj} (hval : Value.okWide Tryd.prog W r b0 35 v) (h : DataW.Trod enc Tryd.prog W 0 (fun _ => true) true 35 v d p) (hH : Hp [(0, g)] W) :
    ∃ HA b, Hp ((0, g) :: HA) W ∧ Rdb ((0, g) :: HA) v b ∧ b.length ≤ 9223372036854775807 := by
  obtain ⟨a0, l0, c0, rfl⟩ := WideShapes.okWide_slice Tryd.underlying35 hval
  simp only [Value.okWide, Tryd.underlying35, Cell.okWide, Cell.ok] at hval
  obtain ⟨n, hn⟩ := h
  rcases open_ints Tryd.underlying35 Tryd.underlying5 cells_u8' hn with ⟨hcs, _⟩ | ⟨a, len, cap, zs, hcs, _, hl, hm, hz, _, hcell, hwz⟩
  · simp [Value.cells] at hcs
    obtain ⟨rfl, rfl, rfl⟩ := hcs
    exact ⟨[], [], hH, .inl ⟨rfl, rfl⟩, by simp⟩
  · simp [Value.cells] at hcs
    obtain ⟨rfl, rfl, rfl⟩ := hcs
    obtain ⟨_, _, hhas⟩ := hval
    obtain ⟨_, hspot, _⟩ := hhas
    obtain ⟨bb, off, sp⟩ := a
    simp only at hspot
    subst hspot
    simp only [if_true] at hz
    have hwf : ∀ i, i < zs.length → 0 ≤ zs.getD i 0 ∧ zs.getD i 0 ≤ 255 := fun i hi => by
      have hm := hwz (zs.getD i 0) (by simp only [List.getD_eq_getElem?_getD, List.getElem?_eq_getElem hi, Option.getD_some]; exact List.getElem_mem hi)
      simpa [Lit.wf, IntKind.min, IntKind.max, IntKind.bits, IntKind.signed] using hm
    have hadd : ∀ i, (⟨bb, off, none⟩ : Addr).add i = ⟨bb, off + i, none⟩ := fun i => by
      unfold Addr.add; split
      · rename_i h; simp
      · rfl
    have hc : ∀ i, i < zs.length → W.cell? ⟨bb, off + i, none⟩ = some (.int .u8 (zs.getD i 0)) := fun i hi => by rw [← hadd]; exact hcell i hi
    have hlb : ((zs.take l0).map fun z => UInt8.ofNat z.toNat).length = l0 := by simp; omega
    have key : ∀ (HX : Mem), (∀ w, Hp HX w → ∀ i, i < l0 → w.cell? ⟨bb, off + i, none⟩ = some (.int .u8 (zs.getD i 0))) → Rdb HX (.slice (some ⟨bb, off, none⟩) l0 c0) ((zs.take l0).map fun z => UInt8.ofNat z.toNat) := fun HX hHX => by
      refine .inr ⟨bb, off, c0, by rw [hlb], by rw [hlb]; exact hl, fun w hw j u hj => ?_⟩
      obtain ⟨hlt, _⟩ := List.getElem?_eq_some_iff.1 hj
      rw [length_bcells, hlb] at hlt
      rw [hHX w hw j hlt, ← hj, bcells_get]
      have hj2 : j < zs.length := by omega
      have := hwf j hj2
      simp only [List.getElem?_map, List.getElem?_take_of_lt hlt, List.getElem?_eq_getElem hj2, Option.map_some, bcell, List.getD_eq_getElem?_getD, Option.getD_some] at this ⊢
      rw [UInt8.toNat_ofNat_of_lt' (show (zs[j]).toNat < 256 by omega)]
      congr 2; omega
    have hlen63 : ((zs.take l0).map fun z => UInt8.ofNat z.toNat).length ≤ 9223372036854775807 := by rw [hlb]; have : c0 ≤ 9223372036854775807 := hm; omega
    by_cases h0 : l0 = 0
    · exact ⟨[], _, hH, key _ (fun w _ i hi => by omega), hlen63⟩
    have hfirst := hc 0 (by omega)
    simp only [World.cell?] at hfirst
    cases hb : W.heap[bb]? with
    | none => simp [hb] at hfirst
    | some o =>
      have hcells : ∀ w : World, w.heap[bb]? = some o → ∀ i, i < l0 → w.cell? ⟨bb, off + i, none⟩ = some (.int .u8 (zs.getD i 0)) := fun w hw i hi => by
        rw [← hc i (by omega)]
        exact World.cell?_of_block (hw.trans hb.symm)
      by_cases hb0 : bb = 0
      · subst hb0
        have hg : o = g := Option.some.inj (hb.symm.trans (hH.at_ (0, g) (by simp)))
        subst hg
        exact ⟨[], _, hH, key _ (fun w hw => hcells w (hw.at_ (0, o) (by simp))), hlen63⟩
      · refine ⟨[(bb, o)], _, ⟨fun e he => ?_, ?_⟩, key _ (fun w hw => hcells w (hw.at_ (bb, o) (by simp))), hlen63⟩
        · simp only [List.mem_cons, List.not_mem_nil, or_false] at he
          rcases he with rfl | rfl
          · exact hH.at_ (0, g) (by simp)
          · exact hb
        · simp only [List.pairwise_cons, List.mem_cons, List.not_mem_nil, or_false, forall_eq, false_imp_iff, implies_true, List.Pairwise.nil, and_true]
          exact fun h => hb0 h.symm
end Go.Proofs.YthagkkmbbncclaaDoor
