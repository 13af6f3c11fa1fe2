import Derived.Test.YtcmnmigcalibdaaGreatDoorGaz
import Derived.Test.YtcmnmigcalibdaaGreatDoorRows
import Derived.Lib.LaidTab
import Derived.LaidSub
import Derived.ProofKit
import Derived.OpenShut
import Derived.Deep.DeepHandedRow
import Derived.WideKeyArgs
import Derived.SevenTiedAt
import Derived.ChangeSlices
import Derived.Test.YtcmnmigcalibdaaGreatDoorCards
import Derived.Test.YtcmnmigcalibdaaGreatDoorTie
namespace Go.Proofs.YtcmnmigcalibdaaGreatDoor
open Go Go.Mv
set_option maxRecDepth 100000
def beginZ : List Int := S8.l shaB |>.map fun a => (a.toNat : Int)
def factorsZ : List Int := shaK.map fun a => (a.toNat : Int)
theorem begin_is : (Rows.laid_marshes_hash_begin : DataW Unit) = Go.Lib.tabData .u32 beginZ := by kernel_rfl
theorem factors_is : (Rows.laid_marshes_hash_factors : DataW Unit) = Go.Lib.tabData .u32 factorsZ := by kernel_rfl
theorem begin_cells : (beginZ.map fun z => Value.int .u32 z) = (wfV 8 (s8f shaB)).cells.toList := by kernel_rfl
theorem factors_cells : (factorsZ.map fun z => Value.int .u32 z) = (wfV 64 (gtf shaK)).cells.toList := by kernel_rfl
/-- The listed tables, as they lie. -/
theorem laid_hash {W : World} (hsh : W.ShapedOpen Tryz.prog) (hL : laidMetH Tryz.prog [("marshes/hash.begin", Rows.laid_marshes_hash_begin), ("marshes/hash.factors", Rows.laid_marshes_hash_factors)] W) :
    Hp [(0, .cells (wfV 8 (s8f shaB)).cells 151 (0, 0)), (1, .cells (wfV 64 (gtf shaK)).cells 286 (0, 0))] W := by
  have hL : laidMet Tryz.prog [("marshes/hash.begin", Rows.laid_marshes_hash_begin), ("marshes/hash.factors", Rows.laid_marshes_hash_factors)] W := hL
  have hL2 : laidMet Tryz.prog [("marshes/hash.factors", Rows.laid_marshes_hash_factors)] W := laidMet.filter (fun x => x.1 == "marshes/hash.factors") hL
  rw [begin_is] at hL
  rw [factors_is] at hL2
  have v1 : W.var? Tryz.prog "marshes/hash.begin" = some (beginZ.map fun z => Value.int .u32 z).toArray := Go.Lib.tabIs_of_head (g := 0) (t := 151) (e := 73) (n := 8) (by kernel_rfl) (by kernel_rfl) Tryz.underlying151 Tryz.underlying73 (by kernel_rfl) (by kernel_rfl) hL
  have v2 : W.var? Tryz.prog "marshes/hash.factors" = some (factorsZ.map fun z => Value.int .u32 z).toArray := Go.Lib.tabIs_of_head (g := 1) (t := 286) (e := 73) (n := 64) (by kernel_rfl) (by kernel_rfl) Tryz.underlying286 Tryz.underlying73 (by kernel_rfl) (by kernel_rfl) hL2
  obtain ⟨c1, h1, _⟩ := hsh.1 0 (List.replicate 8 (Value.int .u32 0)).toArray 151 (of_decide_eq_true (by kernel_rfl)) (by kernel_rfl)
  obtain ⟨c2, h2, _⟩ := hsh.1 1 (List.replicate 64 (Value.int .u32 0)).toArray 286 (of_decide_eq_true (by kernel_rfl)) (by kernel_rfl)
  have g1 : Tryz.prog.globalNamed "marshes/hash.begin" = some 0 := by kernel_rfl
  have g2 : Tryz.prog.globalNamed "marshes/hash.factors" = some 1 := by kernel_rfl
  have e1 : c1 = (wfV 8 (s8f shaB)).cells := by
    unfold World.var? at v1
    rw [g1] at v1
    simp only [Option.bind_some, h1] at v1
    rw [Option.some.inj v1, begin_cells]
  have e2 : c2 = (wfV 64 (gtf shaK)).cells := by
    unfold World.var? at v2
    rw [g2] at v2
    simp only [Option.bind_some, h2] at v2
    rw [Option.some.inj v2, factors_cells]
  subst e1; subst e2
  refine ⟨fun e he => ?_, by simp⟩
  simp only [List.mem_cons, List.not_mem_nil, or_false] at he
  rcases he with rfl | rfl
  · exact h1
  · exact h2
end Go.Proofs.YtcmnmigcalibdaaGreatDoor

namespace Go.Proofs.YtcmnmigcalibdaaGreatDoor.StNames
open Go
set_option maxRecDepth 100000
theorem kinPlace : (Rows.storeNamesRow.inPlace == Tryz.pinned.checked.prog.inPlace 5) = true := by kernel_rfl
theorem kunfollowed : (Rows.storeNamesRow.unfollowed == Tryz.pinned.checked.prog.unfollowed 5) = true := by kernel_rfl
end Go.Proofs.YtcmnmigcalibdaaGreatDoor.StNames

namespace Go.Proofs.YtcmnmigcalibdaaGreatDoor.StNames
open Go
set_option maxRecDepth 100000
theorem krecurses : (Rows.storeNamesRow.recurses == Tryz.pinned.checked.prog.recurses 5) = true := by kernel_rfl
theorem knamed : (Rows.storeNamesRow.named == Tryz.pinned.checked.prog.varsNamed 5) = true := by kernel_rfl
end Go.Proofs.YtcmnmigcalibdaaGreatDoor.StNames

namespace Go.Proofs.YtcmnmigcalibdaaGreatDoor.StNames
open Go
set_option maxRecDepth 100000
theorem klifts : (Rows.storeNamesRow.lifted == Tryz.pinned.checked.prog.liftsFinal) = true := by kernel_rfl
end Go.Proofs.YtcmnmigcalibdaaGreatDoor.StNames

namespace Go.Proofs.YtcmnmigcalibdaaGreatDoor.StNames
open Go
set_option maxRecDepth 100000
theorem kmake : (Tryz.pinned.checked.prog.make == some Rows.storeNamesRow.make) = true := by kernel_rfl
end Go.Proofs.YtcmnmigcalibdaaGreatDoor.StNames

namespace Go.Proofs.YtcmnmigcalibdaaGreatDoor.StNames
open Go
set_option maxRecDepth 100000
theorem kenter : Tryz.pinned.checked.prog.mayEnter = true := by kernel_rfl
theorem kheard : Tryz.pinned.checked.prog.stopsHeard = true := by kernel_rfl
end Go.Proofs.YtcmnmigcalibdaaGreatDoor.StNames

namespace Go.Proofs.YtcmnmigcalibdaaGreatDoor.StNames
open Go
set_option maxRecDepth 100000
theorem kgoes : false = Rows.storeNamesRow.goesBy Tryz.pinned.checked.prog := by kernel_rfl
end Go.Proofs.YtcmnmigcalibdaaGreatDoor.StNames
