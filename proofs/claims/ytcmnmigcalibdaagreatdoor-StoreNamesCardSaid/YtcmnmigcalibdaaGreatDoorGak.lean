import Derived.Test.YtcmnmigcalibdaaGreatDoorGaj
import Derived.Test.YtcmnmigcalibdaaGreatDoorShq
import Derived.Test.YtcmnmigcalibdaaGreatDoorProg
namespace Go.Proofs.YtcmnmigcalibdaaGreatDoor
open Go Go.Mv
set_option maxRecDepth 8000
structure Lnk where
  k : Int
  id : Nat → Int
def lnkV (x : Lnk) : Value := .agg #[.int .i64 x.k, .int .u8 (x.id 0), .int .u8 (x.id 1), .int .u8 (x.id 2), .int .u8 (x.id 3), .int .u8 (x.id 4), .int .u8 (x.id 5), .int .u8 (x.id 6), .int .u8 (x.id 7), .int .u8 (x.id 8), .int .u8 (x.id 9), .int .u8 (x.id 10), .int .u8 (x.id 11), .int .u8 (x.id 12), .int .u8 (x.id 13), .int .u8 (x.id 14), .int .u8 (x.id 15), .int .u8 (x.id 16), .int .u8 (x.id 17), .int .u8 (x.id 18), .int .u8 (x.id 19), .int .u8 (x.id 20), .int .u8 (x.id 21), .int .u8 (x.id 22), .int .u8 (x.id 23), .int .u8 (x.id 24), .int .u8 (x.id 25), .int .u8 (x.id 26), .int .u8 (x.id 27), .int .u8 (x.id 28), .int .u8 (x.id 29), .int .u8 (x.id 30), .int .u8 (x.id 31)]
instance : Inhabited Lnk := ⟨⟨0, (fun _ => 0)⟩⟩
def same_lnk (x y : Lnk) : Bool := (decide (x.k = y.k) && (sameN 32 x.id y.id && true))
theorem eqd_lnk (d : Nat) (x y : Lnk) (w : World) : (Op.equalIn (d + 4) 60 (.agg (lnkV x).cells) (.agg (lnkV y).cells)).run Tryz.prog w = .ok (same_lnk x y) w := by
  refine eqF_of (d := d + 3) Tryz.underlying60 Tryz.stoodInHeld60 ?_
  refine eqF_cons (a := .int .i64 x.k) (b := .int .i64 y.k) (r := decide (x.k = y.k)) rfl (by simp [part, Tryz.isAgg3, lnkV, Value.cells]) (by simp [part, Tryz.isAgg3, lnkV, Value.cells]) (by rw [run_equalIn_int w (d + 2) _ .i64 .i64 _ _ Tryz.underlying3]; rfl) ?_
  refine eqF_cons (a := idV x.id) (b := idV y.id) rfl (by simp [part, Tryz.isAgg35, Tryz.sizeOf35, lnkV, idV, Value.cells]) (by simp [part, Tryz.isAgg35, Tryz.sizeOf35, lnkV, idV, Value.cells]) (eqIn_ints (d := d + 1) (k := .u8) (n := 32) Tryz.underlying35 info_u8 Tryz.underlying5 Tryz.isAgg5 cells_u8 (fun i hi => ⟨id_at _ hi, id_at _ hi⟩) w) eqF_nil
theorem eq_lnk (x y : Lnk) (w : World) : (Op.equalIn 10000 60 (.agg (lnkV x).cells) (.agg (lnkV y).cells)).run Tryz.prog w = .ok (same_lnk x y) w := eqd_lnk 9996 x y w
structure Ent where
  name : ByteArray
  k : Int
  id : Nat → Int
def entV (x : Ent) : Value := .agg #[.string x.name, .int .i64 x.k, .int .u8 (x.id 0), .int .u8 (x.id 1), .int .u8 (x.id 2), .int .u8 (x.id 3), .int .u8 (x.id 4), .int .u8 (x.id 5), .int .u8 (x.id 6), .int .u8 (x.id 7), .int .u8 (x.id 8), .int .u8 (x.id 9), .int .u8 (x.id 10), .int .u8 (x.id 11), .int .u8 (x.id 12), .int .u8 (x.id 13), .int .u8 (x.id 14), .int .u8 (x.id 15), .int .u8 (x.id 16), .int .u8 (x.id 17), .int .u8 (x.id 18), .int .u8 (x.id 19), .int .u8 (x.id 20), .int .u8 (x.id 21), .int .u8 (x.id 22), .int .u8 (x.id 23), .int .u8 (x.id 24), .int .u8 (x.id 25), .int .u8 (x.id 26), .int .u8 (x.id 27), .int .u8 (x.id 28), .int .u8 (x.id 29), .int .u8 (x.id 30), .int .u8 (x.id 31)]
instance : Inhabited Ent := ⟨⟨⟨#[]⟩, 0, (fun _ => 0)⟩⟩
theorem ent_all (x : Ent) : Value.agg ((entV x).cells.extract 0 (0 + 34)) = entV x := by kernel_rfl
def entC (x : Ent) : List Value := (entV x).cells.toList
theorem entC_len (x : Ent) : (entC x).length = 34 := rfl
theorem entC_one (x : Ent) : ∀ v ∈ entC x, v.oneCell' = true := List.all_eq_true.1 (show (entC x).all (fun v => v.oneCell') = true from rfl)
theorem entC_agg (x : Ent) : Value.agg (entC x).toArray = entV x := rfl
theorem el_ent : ElI Tryz.prog 119 34 56 (entV default) := by unfold ElI; kernel_rfl
def same_ent (x y : Ent) : Bool := (decide (x.name = y.name) && (decide (x.k = y.k) && (sameN 32 x.id y.id && true)))
theorem eqd_ent (d : Nat) (x y : Ent) (w : World) : (Op.equalIn (d + 4) 119 (.agg (entV x).cells) (.agg (entV y).cells)).run Tryz.prog w = .ok (same_ent x y) w := by
  refine eqF_of (d := d + 3) Tryz.underlying119 Tryz.stoodInHeld119 ?_
  refine eqF_cons (a := .string x.name) (b := .string y.name) rfl (by simp [part, Tryz.isAgg9, entV, Value.cells]) (by simp [part, Tryz.isAgg9, entV, Value.cells]) (eqIn_string Tryz.underlying9) ?_
  refine eqF_cons (a := .int .i64 x.k) (b := .int .i64 y.k) (r := decide (x.k = y.k)) rfl (by simp [part, Tryz.isAgg3, entV, Value.cells]) (by simp [part, Tryz.isAgg3, entV, Value.cells]) (by rw [run_equalIn_int w (d + 2) _ .i64 .i64 _ _ Tryz.underlying3]; rfl) ?_
  refine eqF_cons (a := idV x.id) (b := idV y.id) rfl (by simp [part, Tryz.isAgg35, Tryz.sizeOf35, entV, idV, Value.cells]) (by simp [part, Tryz.isAgg35, Tryz.sizeOf35, entV, idV, Value.cells]) (eqIn_ints (d := d + 1) (k := .u8) (n := 32) Tryz.underlying35 info_u8 Tryz.underlying5 Tryz.isAgg5 cells_u8 (fun i hi => ⟨id_at _ hi, id_at _ hi⟩) w) eqF_nil
theorem eq_ent (x y : Ent) (w : World) : (Op.equalIn 10000 119 (.agg (entV x).cells) (.agg (entV y).cells)).run Tryz.prog w = .ok (same_ent x y) w := eqd_ent 9996 x y w
structure Ob where
  k : Int
  data : List UInt8
  ents : List Ent
  t : Nat → Int
  pars : List (Nat → Int)
  tg : Lnk
  m : ByteArray
def objV (x : Ob) (v_data v_ents v_pars : Value) : Value := .agg #[.int .i64 x.k, v_data, v_ents, .int .u8 (x.t 0), .int .u8 (x.t 1), .int .u8 (x.t 2), .int .u8 (x.t 3), .int .u8 (x.t 4), .int .u8 (x.t 5), .int .u8 (x.t 6), .int .u8 (x.t 7), .int .u8 (x.t 8), .int .u8 (x.t 9), .int .u8 (x.t 10), .int .u8 (x.t 11), .int .u8 (x.t 12), .int .u8 (x.t 13), .int .u8 (x.t 14), .int .u8 (x.t 15), .int .u8 (x.t 16), .int .u8 (x.t 17), .int .u8 (x.t 18), .int .u8 (x.t 19), .int .u8 (x.t 20), .int .u8 (x.t 21), .int .u8 (x.t 22), .int .u8 (x.t 23), .int .u8 (x.t 24), .int .u8 (x.t 25), .int .u8 (x.t 26), .int .u8 (x.t 27), .int .u8 (x.t 28), .int .u8 (x.t 29), .int .u8 (x.t 30), .int .u8 (x.t 31), v_pars, .int .i64 x.tg.k, .int .u8 (x.tg.id 0), .int .u8 (x.tg.id 1), .int .u8 (x.tg.id 2), .int .u8 (x.tg.id 3), .int .u8 (x.tg.id 4), .int .u8 (x.tg.id 5), .int .u8 (x.tg.id 6), .int .u8 (x.tg.id 7), .int .u8 (x.tg.id 8), .int .u8 (x.tg.id 9), .int .u8 (x.tg.id 10), .int .u8 (x.tg.id 11), .int .u8 (x.tg.id 12), .int .u8 (x.tg.id 13), .int .u8 (x.tg.id 14), .int .u8 (x.tg.id 15), .int .u8 (x.tg.id 16), .int .u8 (x.tg.id 17), .int .u8 (x.tg.id 18), .int .u8 (x.tg.id 19), .int .u8 (x.tg.id 20), .int .u8 (x.tg.id 21), .int .u8 (x.tg.id 22), .int .u8 (x.tg.id 23), .int .u8 (x.tg.id 24), .int .u8 (x.tg.id 25), .int .u8 (x.tg.id 26), .int .u8 (x.tg.id 27), .int .u8 (x.tg.id 28), .int .u8 (x.tg.id 29), .int .u8 (x.tg.id 30), .int .u8 (x.tg.id 31), .string x.m]
instance : Inhabited Ob := ⟨⟨0, [], [], (fun _ => 0), [], (⟨0, (fun _ => 0)⟩ : Lnk), ⟨#[]⟩⟩⟩
theorem obj_all (x : Ob) (v_data v_ents v_pars : Value) : Value.agg ((objV x v_data v_ents v_pars).cells.extract 0 (0 + 70)) = objV x v_data v_ents v_pars := by kernel_rfl
theorem objV_one (x : Ob) (v_data v_ents v_pars : Value) (h_data : v_data.oneCell' = true) (h_ents : v_ents.oneCell' = true) (h_pars : v_pars.oneCell' = true) : ((objV x v_data v_ents v_pars).cells.toList.all fun u => u.oneCell') = true := by
  have h9 : ∀ u ∈ (objV x v_data v_ents v_pars).cells.toList, u.oneCell' = true := by
    intro u hu
    simp only [objV, Value.cells, List.mem_cons, List.not_mem_nil, or_false] at hu
    rcases hu with rfl | rfl | rfl | rfl | rfl | rfl | rfl | rfl | rfl | rfl | rfl | rfl | rfl | rfl | rfl | rfl | rfl | rfl | rfl | rfl | rfl | rfl | rfl | rfl | rfl | rfl | rfl | rfl | rfl | rfl | rfl | rfl | rfl | rfl | rfl | rfl | rfl | rfl | rfl | rfl | rfl | rfl | rfl | rfl | rfl | rfl | rfl | rfl | rfl | rfl | rfl | rfl | rfl | rfl | rfl | rfl | rfl | rfl | rfl | rfl | rfl | rfl | rfl | rfl | rfl | rfl | rfl | rfl | rfl | rfl <;> first | rfl | assumption
  exact List.all_eq_true.2 h9
theorem put_obj_data (x : Ob) (v_data v_ents v_pars : Value) (v : Value) (y : List UInt8) : (objV x v_data v_ents v_pars).cells.setIfInBounds 1 v = (objV { x with data := y } v v_ents v_pars).cells := by kernel_rfl
theorem put_obj_ents (x : Ob) (v_data v_ents v_pars : Value) (v : Value) (y : List Ent) : (objV x v_data v_ents v_pars).cells.setIfInBounds 2 v = (objV { x with ents := y } v_data v v_pars).cells := by kernel_rfl
theorem obj_t (x : Ob) (v_data v_ents v_pars : Value) : Value.agg ((objV x v_data v_ents v_pars).cells.extract 3 (3 + 32)) = idV x.t := by kernel_rfl
theorem put_obj_t (x : Ob) (v_data v_ents v_pars : Value) (y : Nat → Int) : putL (objV x v_data v_ents v_pars).cells 3 (idV y).cells.toList = (objV { x with t := y } v_data v_ents v_pars).cells := by kernel_rfl
theorem put_obj_pars (x : Ob) (v_data v_ents v_pars : Value) (v : Value) (y : List (Nat → Int)) : (objV x v_data v_ents v_pars).cells.setIfInBounds 35 v = (objV { x with pars := y } v_data v_ents v).cells := by kernel_rfl
theorem obj_tg (x : Ob) (v_data v_ents v_pars : Value) : Value.agg ((objV x v_data v_ents v_pars).cells.extract 36 (36 + 33)) = lnkV x.tg := by kernel_rfl
theorem put_obj_tg_k (x : Ob) (v_data v_ents v_pars : Value) (y : Int) : (objV x v_data v_ents v_pars).cells.setIfInBounds 36 (.int .i64 y) = (objV { x with tg := { x.tg with k := y } } v_data v_ents v_pars).cells := by kernel_rfl
theorem put_obj_tg_id (x : Ob) (v_data v_ents v_pars : Value) (y : Nat → Int) : putL (objV x v_data v_ents v_pars).cells 37 (idV y).cells.toList = (objV { x with tg := { x.tg with id := y } } v_data v_ents v_pars).cells := by kernel_rfl
theorem put_obj_m (x : Ob) (v_data v_ents v_pars : Value) (y : ByteArray) : (objV x v_data v_ents v_pars).cells.setIfInBounds 69 (.string y) = (objV { x with m := y } v_data v_ents v_pars).cells := by kernel_rfl

end Go.Proofs.YtcmnmigcalibdaaGreatDoor

namespace Go.Proofs.YtcmnmigcalibdaaGreatDoor
open Go.Proofs.Tryz
open Go Go.Mv
set_option maxRecDepth 8000
theorem sep_dec : ∀ pos, pos < 2 → (Utf8.decode ⟨#[47, 0]⟩ pos).1 ≠ 65533 := by decide

theorem sep_idx (c : UInt8) : Lib.indexByte ((⟨#[47, 0]⟩ : ByteArray).extract 2 (⟨#[47, 0]⟩ : ByteArray).size).data.toList c = -1 := rfl

theorem c_runeBig (r : Int) (w : World) (hr : 128 ≤ r) (hH : Hp [] w) : Calls Tryz.prog 310 #[.string ⟨#[47, 0]⟩, .int .i32 r] w (Ret w [] fun v H1 => v = .int .i64 (-1) ∧ H1 = []) := by
 have ⟨henc, henc4, henc2⟩ := enc_big hr
 refine fn_enter (args := [_, _]) func310 rfl ntmps310 rfl hH (sq (pl (qa rfl (n0 (pn_block (sq (pl (qm rfl (qq rfl (RD.leq rfl rfl) ?_)))))))))
 refine qm rfl (TE_join (σ := Unit) (fun _ => [(0, .string ⟨#[47, 0]⟩), (1, .int .i32 r), (160, .bool ((decide (0 ≤ r)) && (decide (r < 128))))]) (fun _ => []) (fun _ => True) ?_ ?_)
 ·refine TE_dec (fun hf1 => ?_) (fun hf1 => ?_)
  ·exact qg rfl (TE_gq rfl rfl rfl rfl (RD.lss rfl rfl) rfl (qT rfl (qa rfl (n0 (pn_give () trivial ⟨rfl, rfl, congrArg (fun b => some (Value.bool b)) (by first | (simp [hf1]; done) | (simp only [decide_eq_true hf1]; rfl) | (simp only [decide_eq_true hf1]; simp; done)), trivial⟩ sb)))))
  ·exact qs rfl (qs rfl (qF rfl (qa rfl (n0 (pn_give () trivial ⟨rfl, rfl, congrArg (fun b => some (Value.bool b)) (by first | (simp [hf1]; done) | (simp only [decide_eq_false hf1]; rfl) | (simp only [decide_eq_false hf1]; simp; done)), trivial⟩ sb)))))
 rintro _ -
 refine pn_cond rfl (fun hc2 => ?_) (fun hc2 => ?_)
 ·exfalso
  simp only [Bool.and_eq_true, decide_eq_true_eq] at hc2; omega
 ·simp only [Bool.and_eq_false_iff, decide_eq_false_iff_not] at hc2
  refine sq (pl (qm rfl (qq rfl (RD.eql rfl rfl) (qa rfl (n0 (pn_condD rfl (fun hc3 => ?_) (fun hc3 => ?_)))))))
  ·refine sq (sq (pl (qm rfl (TE_rangeS rfl runUnderlying9 rfl trivial rfl fun b175 hb175 => (n0 (pn_block (lpS (σ := Nat) (fun q => [(175, .pointer (some ⟨b175, 0, none⟩))]) (fun q => [(b175, .stringIter ⟨#[47, 0]⟩ q)]) (fun q => True) (fun q => 2 - q) 0 trivial ⟨rfl, trivial⟩ ?_)))))))
   rintro pos -
   refine sq (pl ?_)
   refine (if hn4 : pos < (⟨#[47, 0]⟩ : ByteArray).size then ?_ else ?_)
   ·have ⟨hw5, hw6⟩ := decode_step hn4; refine TE_nextS (i := 0) rfl rfl trivial rfl rfl hn4 (.inl hb175) ?_
    refine qe rfl (n0 (sq (pn_condT rfl (sk (pn_block (sq (pl (qe rfl (qe rfl ?_)))))))))
    refine qa rfl (qa rfl (n0 (sq (pl (qm rfl (qq rfl (RD.eql rfl rfl) (n0 (pn_condD rfl (fun hc7 => ?_) (fun hc7 => ?_)))))))))
    ·exfalso
     have := sep_dec pos (by assumption); omega
    ·exact sk (agS (pos + (Utf8.decode (⟨#[47, 0]⟩ : ByteArray) pos).2) trivial (by have h9 : (⟨#[47, 0]⟩ : ByteArray).size = 2 := rfl; omega) ⟨rfl, trivial⟩)
   ·refine TE_nextE (i := 0) rfl rfl trivial rfl rfl hn4 (qe rfl (n0 (sq (pn_condF rfl (xt (sq (plG [] [] (qa rfl (n0 ?_)))))))))
    exact rt (pn_doneS [] rfl rfl ⟨rfl, rfl⟩ (fun _ => Nat.zero_le _) (fun _ he => nomatch he))
  ·refine sq (pl (qm rfl (cG rfl call315 (fun w hw => Ret.same (Tryz.utf8_ValidRune r w)) ?_)))
   rintro v8 H9 ⟨rfl, rfl⟩ -
   refine qq rfl (RD.not rfl) (qa rfl (n0 (pn_cond rfl (fun hc10 => ?_) (fun hc10 => ?_))))
   ·simp only [Bool.not_eq_true'] at hc10
    exact sq (pl (qa rfl (n0 (rt (pn_doneS [] rfl rfl ⟨rfl, rfl⟩ (fun _ => Nat.zero_le _) (fun _ he => nomatch he))))))
   ·simp only [Bool.not_eq_false'] at hc10
    refine pn_scope (sq (pl (qm rfl (ql rfl (RD.str_of_rune runUnderlying21 runUnderlying9 rfl) (qa rfl (n0 (sq (pn_plain [1] rfl (qm rfl ?_)))))))))
    refine qq rfl (RD.len_string runUnderlying9 rfl) (qq rfl (RD.subI rfl rfl (by omega) (by omega)) (qa rfl (n0 (sq (pl (qm rfl (qa rfl (n0 (sq ?_)))))))))
    refine pl (qa rfl (n0 (sq (pn_block (lpS (σ := Unit) (fun q => [(0, .string ⟨#[47, 0]⟩), (7, .string (Utf8.encode r)), (8, .int .i64 (((Utf8.encode r).size : Int) - 1)), (9, .int .i64 (((Utf8.encode r).size : Int) - 1)), (10, .int .i64 0)]) (fun q => []) (fun q => True) (fun q => 0) () trivial ⟨rfl, rfl, rfl, rfl, rfl, trivial⟩ ?_)))))
    rintro _ -
    refine sq (sq (pn_plain [2] rfl (qm rfl (qm rfl (qq rfl (RD.as (v := .int .i64 2) (RD.len_string runUnderlying9 rfl) rfl) (qq rfl (RD.lss rfl rfl) (n0 (pn_condD rfl (fun hc11 => ?_) (fun hc11 => ?_)))))))))
    ·refine sk (pn_block (pn_scope (sq (sq (dG [] [] [] (qm rfl (qm rfl (qq rfl (RD.indexStr (i := 1) underlying9 rfl rfl (by omega) (gt_some (lt_data (by first | omega | exact Nat.le_of_ble_eq_true rfl)))) (qm rfl ?_)))))))))
     refine qm rfl (qq rfl (RD.indexStr (i := 1) underlying9 rfl rfl (by omega) (gt_some (lt_data (by first | omega | exact Nat.le_of_ble_eq_true rfl)))) (qq rfl (RD.neq rfl rfl) (TE_nil (pn_condN rfl (fun hc12 => ?_) (fun hc12 => ?_)))))
     ·refine sq (dG [] [] [] (qm rfl (qm rfl (qq rfl (RD.addI rfl rfl (by omega) (by omega)) (qq rfl (RD.sliceStr (l := 2) (h := (⟨#[47, 0]⟩ : ByteArray).size) underlying9 rfl ⟨_, congrArg (fun z => some (Value.int .i64 z)) (show ((Utf8.encode r).size : Int) - 1 + 1 = ((2 : Nat) : Int) by omega)⟩ rfl (Nat.le_refl _) (Nat.le_refl _)) (qm rfl (qm rfl (qq rfl (RD.indexStr (i := 1) underlying9 rfl rfl (by omega) (gt_some (lt_data (by first | omega | exact Nat.le_of_ble_eq_true rfl)))) (cG rfl call314 (fun w hw => Ret.same (Tryz.strings_IndexByte ((⟨#[47, 0]⟩ : ByteArray).extract 2 (⟨#[47, 0]⟩ : ByteArray).size) ((gt (Utf8.encode r).data.toList 1).toNat : Int) w)) ?_)))))))))
      rintro v13 H14 ⟨rfl, rfl⟩ -
      refine qa rfl (TE_nil (sq (sq (plG [] [] (qm rfl (qq rfl (RD.lss rfl rfl) (n0 (pn_condD rfl (fun hc15 => ?_) (fun hc15 => ?_)))))))))
      ·exact sq (pl (qa rfl (n0 (rt (pn_doneS [] rfl rfl ⟨rfl, rfl⟩ (fun _ => Nat.zero_le _) (fun _ he => nomatch he))))))
      ·exfalso
       exact hc15 (by rw [sep_idx]; decide)
     ·exfalso
      have h9 := henc2 (by omega); have h8 : (gt ((⟨#[47, 0]⟩ : ByteArray).data.toList) 1) = 0 := rfl; rw [h8] at hc12; have h7 : (0 : UInt8).toNat = 0 := rfl; omega
    ·exact xt (sq (sq (pl (qa rfl (n0 (rt (pn_doneS [] rfl rfl ⟨rfl, rfl⟩ (fun _ => Nat.zero_le _) (fun _ he => nomatch he))))))))
theorem sep_key : ∀ n : Nat, n < 128 → decide (0 ≤ Lib.indexByte (⟨#[47, 0]⟩ : ByteArray).data.toList ((n : Int).toNat.toUInt8)) = decide ((n : Int) = 47 ∨ (n : Int) = 0) := by decide
theorem c_runeSep (r : Nat) (w : World) : Calls Tryz.prog 310 #[.string ⟨#[47, 0]⟩, .int .i32 (r : Int)] w (Ret w [] fun v H1 => ∃ z, v = .int .i64 z ∧ decide (0 ≤ z) = decide ((r : Int) = 47 ∨ (r : Int) = 0) ∧ H1 = []) := by
  by_cases h : r < 128
  · refine (Ret.same (Tryz.strings_IndexRune_ascii ⟨#[47, 0]⟩ r w (by omega) (by omega))).mono ?_
    rintro e w' ⟨v, H1, rfl, ⟨rfl, rfl⟩, h3⟩
    exact ⟨_, _, rfl, ⟨_, rfl, sep_key r h, rfl⟩, h3⟩
  · refine (c_runeBig (r : Int) w (by omega) (Hp.nil _)).mono ?_
    rintro e w' ⟨v, H1, rfl, ⟨rfl, rfl⟩, h3⟩
    exact ⟨_, _, rfl, ⟨_, rfl, by rw [decide_eq_false (by omega), decide_eq_false (by omega)], rfl⟩, h3⟩

theorem c_idxShort (s : ByteArray) (w : World) (hs : s.size ≤ 8) (hH : Hp [] w) : Calls Tryz.prog 309 #[.string s, .string ⟨#[47, 0]⟩] w (Ret w [] fun v H1 => ∃ z, v = .int .i64 z ∧ decide (0 ≤ z) = hasSep s ∧ H1 = []) := by
 refine fn_enter (args := [_, _]) func309 rfl ntmps309 rfl hH (sq (pl (qa rfl (n0 (sq (sq (pl (qm rfl (qq rfl (RD.as (v := .bool false) (RD.eql_string rfl rfl) (congrArg Value.bool (by decide))) ?_)))))))))
 refine n0 (pn_condF rfl (sk (sq (sq (pn_plain [1] rfl (qm rfl (qq rfl (RD.as (v := .int .i64 2) (RD.len_string runUnderlying9 rfl) rfl) (qq rfl (RD.as (v := .bool false) (RD.eql rfl rfl) rfl) (n0 ?_)))))))))
 refine pn_condF rfl (sk (sq (sq (pn_plain [1] rfl (qm rfl (qq rfl (RD.len_string runUnderlying9 rfl) (cG rfl call311 (fun w hw => Ret.same (Tryz.strings_shouldUseASCIISet (s.size : Int) w)) ?_)))))))
 rintro v1 H2 ⟨rfl, rfl⟩ -
 refine n0 (pn_condD rfl (fun hc3 => ?_) (fun hc3 => ?_))
 ·exfalso
  omega
 ·refine sk (sq (sq (pl (qm rfl (TE_rangeS rfl runUnderlying9 rfl trivial rfl fun b45 hb45 => (n0 (pn_block (lpS (σ := Nat) (fun q => [(1, .string ⟨#[47, 0]⟩), (45, .pointer (some ⟨b45, 0, none⟩))]) (fun q => [(b45, .stringIter s q)]) (fun q => (NoSep s q)) (fun q => s.size - q) 0 (fun j hj => absurd hj (Nat.not_lt_zero _)) ⟨rfl, rfl, trivial⟩ ?_))))))))
  rintro pos hns
  refine sq (pl ?_)
  refine (if hn4 : pos < s.size then ?_ else ?_)
  ·have ⟨hw5, hw6⟩ := decode_step hn4; refine TE_nextS (i := 0) rfl rfl trivial rfl rfl hn4 (.inl hb45) ?_
   refine qe rfl (n0 (sq (pn_condT rfl (sk (pn_block (sq (pl (qe rfl (qe rfl ?_)))))))))
   refine qa rfl (qa rfl (n0 (sq (pl (qm rfl (qm rfl (cG rfl call310 (fun w hw => c_runeSep ((Utf8.decode s pos).1) w) ?_)))))))
   rintro v9 H10 ⟨z7, rfl, hz8, rfl⟩ -
   refine qq rfl (RD.geq rfl rfl) (n0 (pn_condD rfl (fun hc11 => ?_) (fun hc11 => ?_)))
   ·exact sq (plG [] [] (qm rfl (qa rfl (n0 (rt (pn_doneS [] rfl rfl ⟨_, rfl, (by rw [NoSep.hit (by assumption) hz8 (by assumption)]; exact decide_eq_true (by omega)), rfl⟩ (fun _ => Nat.zero_le _) (fun _ he => nomatch he)))))))
   ·exact sk (agS (pos + (Utf8.decode s pos).2) (hns.step (by assumption) hz8 (by assumption)) (by omega) ⟨rfl, rfl, trivial⟩)
  ·refine TE_nextE (i := 0) rfl rfl trivial rfl rfl hn4 (qe rfl (n0 (sq (pn_condF rfl (xt (sq (plG [] [] (qa rfl (n0 ?_)))))))))
   exact rt (pn_doneS [] rfl rfl ⟨_, rfl, (by rw [NoSep.none hns (by omega)]; rfl), rfl⟩ (fun _ => Nat.zero_le _) (fun _ he => nomatch he))
theorem c_idxSep (s : ByteArray) (w : World) (hs : s.size ≤ 1000000) : Calls Tryz.prog 309 #[.string s, .string ⟨#[47, 0]⟩] w (Ret w [] fun v H1 => ∃ z, v = .int .i64 z ∧ decide (0 ≤ z) = hasSep s ∧ H1 = []) := by
  by_cases h : s.size ≤ 8
  · exact c_idxShort s w h (Hp.nil _)
  · refine (Ret.new2 (Tryz.strings_IndexAny_long zeroValue379 s ⟨#[47, 0]⟩ w (Nat.le_of_ble_eq_true rfl) (by omega) (by omega) (Nat.lt_of_lt_of_le (show 2 < 3 by decide) (by decide)) (fun j b hj => ?_))).mono ?_
    · have hl : j < 2 := (List.getElem?_eq_some_iff.1 hj).1
      have : j = 0 ∨ j = 1 := by omega
      rcases this with rfl | rfl
      · obtain rfl := Option.some.inj hj; decide
      · obtain rfl := Option.some.inj hj; decide
    · rintro e w' ⟨v, H1, rfl, ⟨rfl, rfl⟩, h3⟩
      exact ⟨_, _, rfl, ⟨_, rfl, indexAny_sep s, rfl⟩, h3⟩

theorem c_hasSep (s : ByteArray) (w : World) (hs : s.size ≤ 1000000) (hH : Hp [] w) : Calls Tryz.prog 308 #[.string s, .string ⟨#[47, 0]⟩] w (Ret w [] fun v H1 => v = .bool (hasSep s) ∧ H1 = []) := by
 refine fn_enter (args := [_, _]) func308 rfl ntmps308 rfl hH (sq (pl (qa rfl (n0 (sq (pl (qm rfl (qm rfl (cG rfl call309 (fun w hw => c_idxSep s w hs) ?_)))))))))
 rintro v3 H4 ⟨z1, rfl, hz2, rfl⟩ -
 exact qq rfl (RD.geq rfl rfl) (qa rfl (n0 (rt (pn_doneS [] rfl rfl ⟨(congrArg Value.bool hz2), rfl⟩ (fun _ => Nat.zero_le _) (fun _ he => nomatch he)))))
end Go.Proofs.YtcmnmigcalibdaaGreatDoor

namespace Go.Proofs.YtcmnmigcalibdaaGreatDoor
open Go Go.Mv
set_option maxRecDepth 8000
def sameGL {α : Type} (f : α → α → Bool) : List α → List α → Bool
  | [], [] => true
  | x :: xs, y :: ys => f x y && sameGL f xs ys
  | _, _ => false
section
variable {α : Type} {f : α → α → Bool}
theorem sameG_len : ∀ {xs ys : List α}, xs.length ≠ ys.length → sameGL f xs ys = false
  | [], [], h => absurd rfl h
  | [], _ :: _, _ => rfl
  | _ :: _, [], _ => rfl
  | x :: xs, y :: ys, h => by
    rw [sameGL, sameG_len (fun e => h (by simp [e])), Bool.and_false]
theorem sameG_F [Inhabited α] : ∀ {xs ys : List α} {i : Nat}, i < xs.length → i < ys.length → f (gt xs i) (gt ys i) = false → sameGL f xs ys = false
  | [], _, _, h, _, _ => absurd h (Nat.not_lt_zero _)
  | _ :: _, [], _, _, h, _ => absurd h (Nat.not_lt_zero _)
  | x :: xs, y :: ys, 0, _, _, h => by
    have h' : f x y = false := h
    rw [sameGL, h', Bool.false_and]
  | x :: xs, y :: ys, i + 1, h1, h2, h => by
    rw [sameGL, sameG_F (i := i) (by simpa using h1) (by simpa using h2) h, Bool.and_false]
theorem sameG_T [Inhabited α] : ∀ {xs ys : List α}, xs.length = ys.length → (∀ j, j < xs.length → f (gt xs j) (gt ys j) = true) → sameGL f xs ys = true
  | [], [], _, _ => rfl
  | [], _ :: _, h, _ => absurd h (by simp)
  | _ :: _, [], h, _ => absurd h (by simp)
  | x :: xs, y :: ys, h, ha => by
    have h0 : f x y = true := ha 0 (by simp)
    rw [sameGL, h0, Bool.true_and, sameG_T (by simpa using h) fun j hj => ha (j + 1) (by simpa using hj)]
end
theorem sameIG_eq : ∀ xs ys : List (Nat → Int), sameIL xs ys = sameGL (sameN 32) xs ys
  | [], [] => rfl
  | [], _ :: _ => rfl
  | _ :: _, [] => rfl
  | x :: xs, y :: ys => by rw [sameIL, sameGL, sameIG_eq xs ys]
theorem ba_eq {a b : List UInt8} : ((⟨a.toArray⟩ : ByteArray) = ⟨b.toArray⟩) ↔ a = b := by simp
structure EntOk (e : Ent) : Prop where
  n : e.name.size ≤ 5000
  id : IdOk e.id
structure ObOk (x : Ob) : Prop where
  d : x.data.length ≤ 1100
  e : x.ents.length ≤ 40
  p : x.pars.length ≤ 10
  m : x.m.size ≤ 5000
  en : ∀ e ∈ x.ents, EntOk e
  t : IdOk x.t
  g : IdOk x.tg.id
  pk : ∀ p ∈ x.pars, IdOk p
  pc : ∀ p ∈ x.pars, IdCan p
def nameB (s : ByteArray) : Bool := decide (1 ≤ s.size) && decide (s.size ≤ 64) && !hasSep s
def entAt (l : List Ent) (i : Nat) : Bool := nameB (gt l i).name && (decide ((gt l i).k = 1) || decide ((gt l i).k = 2)) && (decide (i = 0) || slt (gt l (i - 1)).name (gt l i).name)
def treeB (l : List Ent) : Bool := decide (l.length ≤ 32) && (List.range l.length).all (entAt l)
theorem tree_F2 {l : List Ent} {i : Nat} (hi : i < l.length) (h : entAt l i = false) : treeB l = false := by
  have : (List.range l.length).all (entAt l) = false := List.all_eq_false.2 ⟨i, List.mem_range.2 hi, by simp [h]⟩
  rw [treeB, this, Bool.and_false]
theorem tree_T {l : List Ent} (h : ∀ j, j < l.length → entAt l j = true) : treeB l = decide (l.length ≤ 32) := by
  have : (List.range l.length).all (entAt l) = true := List.all_eq_true.2 fun j hj => h j (List.mem_range.1 hj)
  rw [treeB, this, Bool.and_true]
/-- No two of them are the same. -/
def uniqB (l : List (Nat → Int)) : Bool := (List.range l.length).all fun i => (List.range i).all fun k => !sameN 32 (gt l i) (gt l k)
theorem uniq_T {l : List (Nat → Int)} (h : ∀ i k, i < l.length → k < i → sameN 32 (gt l i) (gt l k) = false) : uniqB l = true :=
  List.all_eq_true.2 fun i hi => List.all_eq_true.2 fun k hk => by rw [h i k (List.mem_range.1 hi) (List.mem_range.1 hk)]; rfl
theorem uniq_at {l : List (Nat → Int)} (h : uniqB l = true) {i k : Nat} (hi : i < l.length) (hk : k < i) : sameN 32 (gt l i) (gt l k) = false := by
  have := List.all_eq_true.1 (List.all_eq_true.1 h i (List.mem_range.2 hi)) k (List.mem_range.2 hk)
  simpa using this
def parsB (l : List (Nat → Int)) : Bool := decide (l.length ≤ 4) && uniqB l
def mayB (x : Ob) : Bool := if x.k = 1 then decide (x.data.length ≤ 1024) else if x.k = 2 then treeB x.ents else if x.k = 3 then parsB x.pars && decide (x.m.size ≤ 200) else if x.k = 4 then (decide (1 ≤ x.tg.k) && decide (x.tg.k ≤ 4)) && decide (x.m.size ≤ 200) else false
def zId : Nat → Int := fun _ => 0
def zLnk : Lnk := ⟨0, zId⟩
def bareOb (x : Ob) : Ob := if x.k = 1 then ⟨x.k, x.data, [], zId, [], zLnk, ⟨#[]⟩⟩ else if x.k = 2 then ⟨x.k, [], x.ents, zId, [], zLnk, ⟨#[]⟩⟩ else if x.k = 3 then ⟨x.k, [], [], x.t, x.pars, zLnk, x.m⟩ else ⟨x.k, [], [], zId, [], x.tg, x.m⟩
def obSame (a b : Ob) : Bool := decide (a.k = b.k) && (decide (a.data = b.data) && (sameGL same_ent a.ents b.ents && (sameN 32 a.t b.t && (sameIL a.pars b.pars && (same_lnk a.tg b.tg && decide (a.m = b.m))))))
def obOkB (x : Ob) : Bool := mayB x && obSame (bareOb x) x
theorem sameN_self (f : Nat → Int) (n : Nat) : sameN n f f = true := by
  induction n with
  | zero => rfl
  | succ n ih => simp [sameN, ih]
end Go.Proofs.YtcmnmigcalibdaaGreatDoor
