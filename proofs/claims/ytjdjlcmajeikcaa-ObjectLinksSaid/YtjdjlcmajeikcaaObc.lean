import Derived.Test.YtjdjlcmajeikcaaMvL
import Derived.Test.YtjdjlcmajeikcaaSet
import Derived.Test.YtjdjlcmajeikcaaEqr
import Derived.Test.YtjdjlcmajeikcaaR1
import Derived.Test.YtjdjlcmajeikcaaCdc
namespace Go.Proofs.Ytjdjlcmajeikcaa
open Go Go.Mv
set_option maxRecDepth 8000
structure Lnk where
  k : Int
  id : Nat → Int
def lnkV (x : Lnk) : Value := .agg #[.int .i64 x.k, .int .u8 (x.id 0), .int .u8 (x.id 1), .int .u8 (x.id 2), .int .u8 (x.id 3), .int .u8 (x.id 4), .int .u8 (x.id 5), .int .u8 (x.id 6), .int .u8 (x.id 7), .int .u8 (x.id 8), .int .u8 (x.id 9), .int .u8 (x.id 10), .int .u8 (x.id 11), .int .u8 (x.id 12), .int .u8 (x.id 13), .int .u8 (x.id 14), .int .u8 (x.id 15), .int .u8 (x.id 16), .int .u8 (x.id 17), .int .u8 (x.id 18), .int .u8 (x.id 19), .int .u8 (x.id 20), .int .u8 (x.id 21), .int .u8 (x.id 22), .int .u8 (x.id 23), .int .u8 (x.id 24), .int .u8 (x.id 25), .int .u8 (x.id 26), .int .u8 (x.id 27), .int .u8 (x.id 28), .int .u8 (x.id 29), .int .u8 (x.id 30), .int .u8 (x.id 31)]
instance : Inhabited Lnk := ⟨⟨0, (fun _ => 0)⟩⟩
def lnkC (x : Lnk) : List Value := (lnkV x).cells.toList
theorem lnkC_len (x : Lnk) : (lnkC x).length = 33 := rfl
theorem lnkC_one (x : Lnk) : ∀ v ∈ lnkC x, v.oneCell' = true := List.all_eq_true.1 (show (lnkC x).all (fun v => v.oneCell') = true from rfl)
theorem lnkC_agg (x : Lnk) : Value.agg (lnkC x).toArray = lnkV x := rfl
theorem el_lnk : ElI Try.prog 28 33 40 (lnkV default) := by unfold ElI; kernel_rfl
def same_lnk (x y : Lnk) : Bool := (decide (x.k = y.k) && (sameN 32 x.id y.id && true))
theorem eqd_lnk (d : Nat) (x y : Lnk) (w : World) : (Op.equalIn (d + 4) 28 (.agg (lnkV x).cells) (.agg (lnkV y).cells)).run Try.prog w = .ok (same_lnk x y) w := by
  refine eqF_of (d := d + 3) Try.underlying28 Try.stoodInHeld28 ?_
  refine eqF_cons (a := .int .i64 x.k) (b := .int .i64 y.k) (r := decide (x.k = y.k)) rfl (by simp [part, Try.isAgg3, lnkV, Value.cells]) (by simp [part, Try.isAgg3, lnkV, Value.cells]) (by rw [run_equalIn_int w (d + 2) _ .i64 .i64 _ _ Try.underlying3]; rfl) ?_
  refine eqF_cons (a := idV x.id) (b := idV y.id) rfl (by simp [part, Try.isAgg25, Try.sizeOf25, lnkV, idV, Value.cells]) (by simp [part, Try.isAgg25, Try.sizeOf25, lnkV, idV, Value.cells]) (eqIn_ints (d := d + 1) (k := .u8) (n := 32) Try.underlying25 info_u8 Try.underlying5 Try.isAgg5 cells_u8 (fun i hi => ⟨id_at _ hi, id_at _ hi⟩) w) eqF_nil
theorem eq_lnk (x y : Lnk) (w : World) : (Op.equalIn 10000 28 (.agg (lnkV x).cells) (.agg (lnkV y).cells)).run Try.prog w = .ok (same_lnk x y) w := eqd_lnk 9996 x y w
structure Ent where
  name : ByteArray
  k : Int
  id : Nat → Int
def entV (x : Ent) : Value := .agg #[.string x.name, .int .i64 x.k, .int .u8 (x.id 0), .int .u8 (x.id 1), .int .u8 (x.id 2), .int .u8 (x.id 3), .int .u8 (x.id 4), .int .u8 (x.id 5), .int .u8 (x.id 6), .int .u8 (x.id 7), .int .u8 (x.id 8), .int .u8 (x.id 9), .int .u8 (x.id 10), .int .u8 (x.id 11), .int .u8 (x.id 12), .int .u8 (x.id 13), .int .u8 (x.id 14), .int .u8 (x.id 15), .int .u8 (x.id 16), .int .u8 (x.id 17), .int .u8 (x.id 18), .int .u8 (x.id 19), .int .u8 (x.id 20), .int .u8 (x.id 21), .int .u8 (x.id 22), .int .u8 (x.id 23), .int .u8 (x.id 24), .int .u8 (x.id 25), .int .u8 (x.id 26), .int .u8 (x.id 27), .int .u8 (x.id 28), .int .u8 (x.id 29), .int .u8 (x.id 30), .int .u8 (x.id 31)]
instance : Inhabited Ent := ⟨⟨⟨#[]⟩, 0, (fun _ => 0)⟩⟩
def entC (x : Ent) : List Value := (entV x).cells.toList
theorem entC_len (x : Ent) : (entC x).length = 34 := rfl
theorem entC_one (x : Ent) : ∀ v ∈ entC x, v.oneCell' = true := List.all_eq_true.1 (show (entC x).all (fun v => v.oneCell') = true from rfl)
theorem entC_agg (x : Ent) : Value.agg (entC x).toArray = entV x := rfl
theorem el_ent : ElI Try.prog 38 34 56 (entV default) := by unfold ElI; kernel_rfl
theorem ent_id (x : Ent) : Value.agg ((entV x).cells.extract 2 (2 + 32)) = idV x.id := by kernel_rfl
theorem entC_id {x : Ent} {j : Nat} {u : Value} (h : (idC x.id)[j]? = some u) : (entC x)[2 + j]? = some u := by
  have hj : j < 32 := (List.getElem?_eq_some_iff.1 h).1
  rw [← h]
  rcases lt32 hj with hj | ⟨k, hk, rfl⟩
  · rcases lt16 hj with rfl | rfl | rfl | rfl | rfl | rfl | rfl | rfl | rfl | rfl | rfl | rfl | rfl | rfl | rfl | rfl <;> rfl
  · rcases lt16 hk with rfl | rfl | rfl | rfl | rfl | rfl | rfl | rfl | rfl | rfl | rfl | rfl | rfl | rfl | rfl | rfl <;> rfl
def same_ent (x y : Ent) : Bool := (decide (x.name = y.name) && (decide (x.k = y.k) && (sameN 32 x.id y.id && true)))
theorem eqd_ent (d : Nat) (x y : Ent) (w : World) : (Op.equalIn (d + 4) 38 (.agg (entV x).cells) (.agg (entV y).cells)).run Try.prog w = .ok (same_ent x y) w := by
  refine eqF_of (d := d + 3) Try.underlying38 Try.stoodInHeld38 ?_
  refine eqF_cons (a := .string x.name) (b := .string y.name) rfl (by simp [part, Try.isAgg9, entV, Value.cells]) (by simp [part, Try.isAgg9, entV, Value.cells]) (eqIn_string Try.underlying9) ?_
  refine eqF_cons (a := .int .i64 x.k) (b := .int .i64 y.k) (r := decide (x.k = y.k)) rfl (by simp [part, Try.isAgg3, entV, Value.cells]) (by simp [part, Try.isAgg3, entV, Value.cells]) (by rw [run_equalIn_int w (d + 2) _ .i64 .i64 _ _ Try.underlying3]; rfl) ?_
  refine eqF_cons (a := idV x.id) (b := idV y.id) rfl (by simp [part, Try.isAgg25, Try.sizeOf25, entV, idV, Value.cells]) (by simp [part, Try.isAgg25, Try.sizeOf25, entV, idV, Value.cells]) (eqIn_ints (d := d + 1) (k := .u8) (n := 32) Try.underlying25 info_u8 Try.underlying5 Try.isAgg5 cells_u8 (fun i hi => ⟨id_at _ hi, id_at _ hi⟩) w) eqF_nil
theorem eq_ent (x y : Ent) (w : World) : (Op.equalIn 10000 38 (.agg (entV x).cells) (.agg (entV y).cells)).run Try.prog w = .ok (same_ent x y) w := eqd_ent 9996 x y w
structure Ob where
  k : Int
  data : List UInt8
  ents : List Ent
  t : Nat → Int
  pars : List (Nat → Int)
  tg : Lnk
  m : ByteArray
def objV (x : Ob) (v_data v_ents v_pars : Value) : Value := .agg #[.int .i64 x.k, v_data, v_ents, .int .u8 (x.t 0), .int .u8 (x.t 1), .int .u8 (x.t 2), .int .u8 (x.t 3), .int .u8 (x.t 4), .int .u8 (x.t 5), .int .u8 (x.t 6), .int .u8 (x.t 7), .int .u8 (x.t 8), .int .u8 (x.t 9), .int .u8 (x.t 10), .int .u8 (x.t 11), .int .u8 (x.t 12), .int .u8 (x.t 13), .int .u8 (x.t 14), .int .u8 (x.t 15), .int .u8 (x.t 16), .int .u8 (x.t 17), .int .u8 (x.t 18), .int .u8 (x.t 19), .int .u8 (x.t 20), .int .u8 (x.t 21), .int .u8 (x.t 22), .int .u8 (x.t 23), .int .u8 (x.t 24), .int .u8 (x.t 25), .int .u8 (x.t 26), .int .u8 (x.t 27), .int .u8 (x.t 28), .int .u8 (x.t 29), .int .u8 (x.t 30), .int .u8 (x.t 31), v_pars, .int .i64 x.tg.k, .int .u8 (x.tg.id 0), .int .u8 (x.tg.id 1), .int .u8 (x.tg.id 2), .int .u8 (x.tg.id 3), .int .u8 (x.tg.id 4), .int .u8 (x.tg.id 5), .int .u8 (x.tg.id 6), .int .u8 (x.tg.id 7), .int .u8 (x.tg.id 8), .int .u8 (x.tg.id 9), .int .u8 (x.tg.id 10), .int .u8 (x.tg.id 11), .int .u8 (x.tg.id 12), .int .u8 (x.tg.id 13), .int .u8 (x.tg.id 14), .int .u8 (x.tg.id 15), .int .u8 (x.tg.id 16), .int .u8 (x.tg.id 17), .int .u8 (x.tg.id 18), .int .u8 (x.tg.id 19), .int .u8 (x.tg.id 20), .int .u8 (x.tg.id 21), .int .u8 (x.tg.id 22), .int .u8 (x.tg.id 23), .int .u8 (x.tg.id 24), .int .u8 (x.tg.id 25), .int .u8 (x.tg.id 26), .int .u8 (x.tg.id 27), .int .u8 (x.tg.id 28), .int .u8 (x.tg.id 29), .int .u8 (x.tg.id 30), .int .u8 (x.tg.id 31), .string x.m]
instance : Inhabited Ob := ⟨⟨0, [], [], (fun _ => 0), [], (⟨0, (fun _ => 0)⟩ : Lnk), ⟨#[]⟩⟩⟩
theorem obj_all (x : Ob) (v_data v_ents v_pars : Value) : Value.agg ((objV x v_data v_ents v_pars).cells.extract 0 (0 + 70)) = objV x v_data v_ents v_pars := by kernel_rfl
theorem objV_one (x : Ob) (v_data v_ents v_pars : Value) (h_data : v_data.oneCell' = true) (h_ents : v_ents.oneCell' = true) (h_pars : v_pars.oneCell' = true) : ((objV x v_data v_ents v_pars).cells.toList.all fun u => u.oneCell') = true := by
  have h9 : ∀ u ∈ (objV x v_data v_ents v_pars).cells.toList, u.oneCell' = true := by
    intro u hu
    simp only [objV, Value.cells, List.mem_cons, List.not_mem_nil, or_false] at hu
    rcases hu with rfl | rfl | rfl | rfl | rfl | rfl | rfl | rfl | rfl | rfl | rfl | rfl | rfl | rfl | rfl | rfl | rfl | rfl | rfl | rfl | rfl | rfl | rfl | rfl | rfl | rfl | rfl | rfl | rfl | rfl | rfl | rfl | rfl | rfl | rfl | rfl | rfl | rfl | rfl | rfl | rfl | rfl | rfl | rfl | rfl | rfl | rfl | rfl | rfl | rfl | rfl | rfl | rfl | rfl | rfl | rfl | rfl | rfl | rfl | rfl | rfl | rfl | rfl | rfl | rfl | rfl | rfl | rfl | rfl | rfl <;> first | rfl | assumption
  exact List.all_eq_true.2 h9
theorem put_obj_data (x : Ob) (v_data v_ents v_pars : Value) (v : Value) (y : List UInt8) : (objV x v_data v_ents v_pars).cells.setIfInBounds 1 v = (objV { x with data := y } v v_ents v_pars).cells := by kernel_rfl
theorem put_obj_ents (x : Ob) (v_data v_ents v_pars : Value) (v : Value) (y : List Ent) : (objV x v_data v_ents v_pars).cells.setIfInBounds 2 v = (objV { x with ents := y } v_data v v_pars).cells := by kernel_rfl
theorem obj_t (x : Ob) (v_data v_ents v_pars : Value) : Value.agg ((objV x v_data v_ents v_pars).cells.extract 3 (3 + 32)) = idV x.t := by kernel_rfl
theorem put_obj_pars (x : Ob) (v_data v_ents v_pars : Value) (v : Value) (y : List (Nat → Int)) : (objV x v_data v_ents v_pars).cells.setIfInBounds 35 v = (objV { x with pars := y } v_data v_ents v).cells := by kernel_rfl
theorem obj_tg (x : Ob) (v_data v_ents v_pars : Value) : Value.agg ((objV x v_data v_ents v_pars).cells.extract 36 (36 + 33)) = lnkV x.tg := by kernel_rfl
theorem obj_tg_id (x : Ob) (v_data v_ents v_pars : Value) : Value.agg ((objV x v_data v_ents v_pars).cells.extract 37 (37 + 32)) = idV x.tg.id := by kernel_rfl
end Go.Proofs.Ytjdjlcmajeikcaa
