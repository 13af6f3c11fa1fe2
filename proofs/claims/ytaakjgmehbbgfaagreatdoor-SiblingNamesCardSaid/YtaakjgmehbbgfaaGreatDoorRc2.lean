import Derived.Test.YtaakjgmehbbgfaaGreatDoorRec
namespace Go.Proofs.YtaakjgmehbbgfaaGreatDoor
open Go Go.Mv
set_option maxRecDepth 8000
def aheadB (a b : Rec) : Bool := vHas b.ctx a.s a.c
def outdoesB (a b : Rec) : Bool := decide (a.ref = b.ref) && aheadB b a
theorem eq_dot (s c s' c' : Int) (w : World) : (Op.equalIn 10000 33 (.agg #[.int .i64 s, .int .i64 c]) (.agg #[.int .i64 s', .int .i64 c'])).run Tryz.prog w = .ok (decide (s = s') && decide (c = c')) w := by
  refine eqF_of (d := 9999) Tryz.underlying33 Tryz.stoodInHeld33 ?_
  refine eqF_cons (a := .int .i64 s) (b := .int .i64 s') (r := decide (s = s')) (s := decide (c = c')) rfl (by simp [part, Tryz.isAgg3]) (by simp [part, Tryz.isAgg3]) (by rw [run_equalIn_int w 9998 _ .i64 .i64 s s' Tryz.underlying3]; rfl) ?_
  refine (eqF_cons (a := .int .i64 c) (b := .int .i64 c') (r := decide (c = c')) (s := true) rfl (by simp [part, Tryz.isAgg3]) (by simp [part, Tryz.isAgg3]) (by rw [run_equalIn_int w 9998 _ .i64 .i64 c c' Tryz.underlying3]; rfl) eqF_nil).trans (by rw [Bool.and_true])

theorem c_ahead (a b : Rec) (w : World) (hb : RecOk b) : Calls Tryz.prog 58 #[recV a, recV b] w (Ret w [] fun v H1 => v = .bool (aheadB a b) ∧ H1 = []) := by
  refine fn_enter (args := [_, _]) Tryz.func58 rfl Tryz.ntmps58 rfl (Hp.nil w) ?_
  refine pn_seq ?_
  refine pn_plain [] rfl ?_
  refine TE_box rfl rfl trivial rfl fun b2 hb2 => ?_
  refine TE_box rfl rfl trivial rfl fun b3 hb3 => ?_
  refine TE_q rfl rfl (RD.assign rfl) rfl ?_
  refine TE_nil0 ?_
  refine pn_seq ?_
  refine pn_plain [] rfl ?_
  refine TE_q rfl rfl (RD.fieldAddr (o := 2) Tryz.runUnderlying40 rfl rfl Tryz.sizeOf36 rfl) rfl ?_
  refine TE_l rfl rfl trivial rfl (RD.loadA (i := 0) Tryz.isAgg36 Tryz.sizeOf36 rfl rfl (Nat.le_of_ble_eq_true rfl) (rec_ctx' _)) rfl ?_
  refine TE_q rfl rfl (RD.fieldAddr (o := 0) Tryz.runUnderlying40 rfl rfl Tryz.sizeOf33 rfl) rfl ?_
  refine TE_l rfl rfl trivial rfl (RD.loadA (i := 1) Tryz.isAgg33 Tryz.sizeOf33 rfl rfl (Nat.le_of_ble_eq_true rfl) (rec_dot _)) rfl ?_
  refine TE_call rfl rfl trivial Tryz.call18 rfl rfl rfl (fun w hs' => c_vecHas b.ctx a.s a.c w hb.ctx) ?_
  rintro v9 H4 ⟨rfl, rfl⟩ -
  refine TE_q rfl rfl (RD.assign rfl) rfl ?_
  refine TE_nil0 ?_
  refine pn_ret ?_
  exact pn_done rfl rfl ⟨rfl, rfl⟩ (List.nil_sublist _) (by simp)

theorem c_outdoes (a b : Rec) (w : World) (ha : RecOk a) : Calls Tryz.prog 20 #[recV a, recV b] w (Ret w [] fun v H1 => v = .bool (outdoesB a b) ∧ H1 = []) := by
  refine fn_enter (args := [_, _]) Tryz.func20 rfl Tryz.ntmps20 rfl (Hp.nil w) ?_
  refine pn_seq ?_
  refine pn_plain [] rfl ?_
  refine TE_box rfl rfl trivial rfl fun b2 hb2 => ?_
  refine TE_box rfl rfl trivial rfl fun b3 hb3 => ?_
  refine TE_q rfl rfl (RD.assign rfl) rfl ?_
  refine TE_nil0 ?_
  refine pn_seq ?_
  refine pn_plain [] rfl ?_
  refine TE_q rfl rfl (RD.fieldAddr (o := 18) Tryz.runUnderlying40 rfl rfl Tryz.sizeOf9 rfl) rfl ?_
  refine TE_l rfl rfl trivial rfl (RD.load (i := 1) Tryz.isAgg9 rfl rfl rfl) rfl ?_
  refine TE_q rfl rfl (RD.fieldAddr (o := 18) Tryz.runUnderlying40 rfl rfl Tryz.sizeOf9 rfl) rfl ?_
  refine TE_l rfl rfl trivial rfl (RD.load (i := 0) Tryz.isAgg9 rfl rfl rfl) rfl ?_
  refine TE_q rfl rfl (RD.eql_string rfl rfl) rfl ?_
  refine TE_q rfl rfl (RD.move rfl) rfl ?_
  (first | refine TE_isT ?_ | refine TE_isF ?_ | refine TE_dec (fun h105 => ?_) (fun h105 => ?_) | refine TE_ndec (fun h105 => ?_) (fun h105 => ?_) | refine TE_bool (fun h105 => ?_) (fun h105 => ?_))
  all_goals (first | (refine TE_s rfl rfl rfl rfl rfl ?_) | (refine TE_l rfl rfl ⟨_, rfl, rfl⟩ rfl (RD.loadA (i := 0) Tryz.isAgg40 Tryz.sizeOf40 rfl rfl (Nat.le_of_ble_eq_true rfl) (rec_all _)) rfl ?_))
  all_goals (first | (refine TE_s rfl rfl rfl rfl rfl ?_) | (refine TE_l rfl rfl ⟨_, rfl, rfl⟩ rfl (RD.loadA (i := 1) Tryz.isAgg40 Tryz.sizeOf40 rfl rfl (Nat.le_of_ble_eq_true rfl) (rec_all _)) rfl ?_))
  all_goals (first | (refine TE_s rfl rfl rfl rfl rfl ?_) | ((refine TE_call rfl rfl ⟨_, rfl, rfl⟩ Tryz.call58 rfl rfl rfl (fun w hs' => c_ahead b a w ha) ?_; rintro v13 H8 ⟨rfl, rfl⟩ -)))
  all_goals (first | (refine TE_q rfl rfl (RD.pickT rfl rfl) rfl ?_) | (refine TE_q rfl rfl (RD.pickF rfl rfl) rfl ?_))
  all_goals refine TE_q rfl rfl (RD.assign rfl) rfl ?_
  all_goals refine TE_nil0 ?_
  all_goals refine pn_ret ?_
  all_goals (first | exact pn_done rfl rfl ⟨by simp only [outdoesB]; rw [show decide (a.ref = b.ref) = true from decide_eq_true ‹_›]; rfl, rfl⟩ (List.nil_sublist _) (by simp) | exact pn_done rfl rfl ⟨by simp only [outdoesB]; rw [show decide (a.ref = b.ref) = false from decide_eq_false ‹_›]; rfl, rfl⟩ (List.nil_sublist _) (by simp))

end Go.Proofs.YtaakjgmehbbgfaaGreatDoor
