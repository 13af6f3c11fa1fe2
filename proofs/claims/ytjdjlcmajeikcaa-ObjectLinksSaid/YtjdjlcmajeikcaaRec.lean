import Derived.Test.YtjdjlcmajeikcaaRf4
import Derived.Test.YtjdjlcmajeikcaaProg
import Derived.Test.YtjdjlcmajeikcaaMvB
import Derived.Test.YtjdjlcmajeikcaaDot
namespace Go.Proofs.Ytjdjlcmajeikcaa
open Go Go.Mv
set_option maxRecDepth 8000
theorem info_u8 : Try.prog.info? 5 = some Try.t5 := by kernel_rfl
theorem cells_u8 : Try.prog.cellsOf 5 = 1 := by kernel_rfl
theorem eq_id (f g : Nat → Int) (w : World) : (Op.equalIn 10000 25 (.agg (idV f).cells) (.agg (idV g).cells)).run Try.prog w = .ok (sameN 32 f g) w :=
  eqIn_ints (d := 9998) (k := .u8) Try.underlying25 info_u8 Try.underlying5 Try.isAgg5 cells_u8 (fun _ hi => ⟨id_at f hi, id_at g hi⟩) w
def tip0 (r : Rec) : Bool := sameN 32 r.tip fun _ => 0
/-- P12.1: a record that may be. -/
def recOkB (r : Rec) : Bool := dotOk r.s r.c && decide (r.ctx r.s.toNat = r.c - 1) && decide (breaksN r.ref = 0) && (r.has || tip0 r)
end Go.Proofs.Ytjdjlcmajeikcaa
