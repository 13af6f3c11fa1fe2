import Derived.Test.YthagkkmbbncclaaDoorRec
namespace Go.Proofs.YthagkkmbbncclaaDoor
open Go Go.Mv
set_option maxRecDepth 8000
def aheadB (a b : Rec) : Bool := vHas b.ctx a.s a.c
def outdoesB (a b : Rec) : Bool := decide (a.ref = b.ref) && aheadB b a
def sameDot (a b : Rec) : Bool := decide (a.s = b.s) && decide (a.c = b.c)
def apartB (a b : Rec) : Bool := !sameDot a b && !aheadB a b && !aheadB b a
theorem eq_dot (s c s' c' : Int) (w : World) : (Op.equalIn 10000 23 (.agg #[.int .i64 s, .int .i64 c]) (.agg #[.int .i64 s', .int .i64 c'])).run Tryd.prog w = .ok (decide (s = s') && decide (c = c')) w := by
  refine eqF_of (d := 9999) Tryd.underlying23 Tryd.stoodInHeld23 ?_
  refine eqF_cons (a := .int .i64 s) (b := .int .i64 s') (r := decide (s = s')) (s := decide (c = c')) rfl (by simp [part, Tryd.isAgg3]) (by simp [part, Tryd.isAgg3]) (by rw [run_equalIn_int w 9998 _ .i64 .i64 s s' Tryd.underlying3]; rfl) ?_
  refine (eqF_cons (a := .int .i64 c) (b := .int .i64 c') (r := decide (c = c')) (s := true) rfl (by simp [part, Tryd.isAgg3]) (by simp [part, Tryd.isAgg3]) (by rw [run_equalIn_int w 9998 _ .i64 .i64 c c' Tryd.underlying3]; rfl) eqF_nil).trans (by rw [Bool.and_true])

theorem c_ahead (a b : Rec) (w : World) (hb : RecOk b) : Calls Tryd.prog 10 #[recV a, recV b] w (Ret w [] fun v H1 => v = .bool (aheadB a b) ∧ H1 = []) := by
  refine fn_enter (args := [_, _]) Tryd.func10 rfl Tryd.ntmps10 rfl (Hp.nil w) ?_
  refine pn_seq ?_
  refine pn_plain [] rfl ?_
  refine TE_box rfl rfl trivial rfl fun b2 hb2 => ?_
  refine TE_box rfl rfl trivial rfl fun b3 hb3 => ?_
  refine TE_q rfl rfl (RD.assign rfl) rfl ?_
  refine TE_nil0 ?_
  refine pn_seq ?_
  refine pn_plain [] rfl ?_
  refine TE_q rfl rfl (RD.fieldAddr (o := 2) Tryd.runUnderlying30 rfl rfl Tryd.sizeOf26 rfl) rfl ?_
  refine TE_l rfl rfl trivial rfl (RD.loadA (i := 0) Tryd.isAgg26 Tryd.sizeOf26 rfl rfl (Nat.le_of_ble_eq_true rfl) (rec_ctx' _)) rfl ?_
  refine TE_q rfl rfl (RD.fieldAddr (o := 0) Tryd.runUnderlying30 rfl rfl Tryd.sizeOf23 rfl) rfl ?_
  refine TE_l rfl rfl trivial rfl (RD.loadA (i := 1) Tryd.isAgg23 Tryd.sizeOf23 rfl rfl (Nat.le_of_ble_eq_true rfl) (rec_dot _)) rfl ?_
  refine TE_call rfl rfl trivial Tryd.call31 rfl rfl rfl (fun w hs' => c_vecHas b.ctx a.s a.c w hb.ctx) ?_
  rintro v9 H4 ⟨rfl, rfl⟩ -
  refine TE_q rfl rfl (RD.assign rfl) rfl ?_
  refine TE_nil0 ?_
  refine pn_ret ?_
  exact pn_done rfl rfl ⟨rfl, rfl⟩ (List.nil_sublist _) (by simp)

theorem c_outdoes (a b : Rec) (w : World) (ha : RecOk a) : Calls Tryd.prog 11 #[recV a, recV b] w (Ret w [] fun v H1 => v = .bool (outdoesB a b) ∧ H1 = []) := by
  refine fn_enter (args := [_, _]) Tryd.func11 rfl Tryd.ntmps11 rfl (Hp.nil w) ?_
  refine pn_seq ?_
  refine pn_plain [] rfl ?_
  refine TE_box rfl rfl trivial rfl fun b2 hb2 => ?_
  refine TE_box rfl rfl trivial rfl fun b3 hb3 => ?_
  refine TE_q rfl rfl (RD.assign rfl) rfl ?_
  refine TE_nil0 ?_
  refine pn_seq ?_
  refine pn_plain [] rfl ?_
  refine TE_q rfl rfl (RD.fieldAddr (o := 18) Tryd.runUnderlying30 rfl rfl Tryd.sizeOf9 rfl) rfl ?_
  refine TE_l rfl rfl trivial rfl (RD.load (i := 1) Tryd.isAgg9 rfl rfl rfl) rfl ?_
  refine TE_q rfl rfl (RD.fieldAddr (o := 18) Tryd.runUnderlying30 rfl rfl Tryd.sizeOf9 rfl) rfl ?_
  refine TE_l rfl rfl trivial rfl (RD.load (i := 0) Tryd.isAgg9 rfl rfl rfl) rfl ?_
  refine TE_q rfl rfl (RD.eql_string rfl rfl) rfl ?_
  refine TE_q rfl rfl (RD.move rfl) rfl ?_
  (first | refine TE_isT ?_ | refine TE_isF ?_ | refine TE_dec (fun h105 => ?_) (fun h105 => ?_) | refine TE_ndec (fun h105 => ?_) (fun h105 => ?_) | refine TE_bool (fun h105 => ?_) (fun h105 => ?_))
  all_goals (first | (refine TE_s rfl rfl rfl rfl rfl ?_) | (refine TE_l rfl rfl ⟨_, rfl, rfl⟩ rfl (RD.loadA (i := 0) Tryd.isAgg30 Tryd.sizeOf30 rfl rfl (Nat.le_of_ble_eq_true rfl) (rec_all _)) rfl ?_))
  all_goals (first | (refine TE_s rfl rfl rfl rfl rfl ?_) | (refine TE_l rfl rfl ⟨_, rfl, rfl⟩ rfl (RD.loadA (i := 1) Tryd.isAgg30 Tryd.sizeOf30 rfl rfl (Nat.le_of_ble_eq_true rfl) (rec_all _)) rfl ?_))
  all_goals (first | (refine TE_s rfl rfl rfl rfl rfl ?_) | ((refine TE_call rfl rfl ⟨_, rfl, rfl⟩ Tryd.call10 rfl rfl rfl (fun w hs' => c_ahead b a w ha) ?_; rintro v13 H8 ⟨rfl, rfl⟩ -)))
  all_goals (first | (refine TE_q rfl rfl (RD.pickT rfl rfl) rfl ?_) | (refine TE_q rfl rfl (RD.pickF rfl rfl) rfl ?_))
  all_goals refine TE_q rfl rfl (RD.assign rfl) rfl ?_
  all_goals refine TE_nil0 ?_
  all_goals refine pn_ret ?_
  all_goals (first | exact pn_done rfl rfl ⟨by simp only [outdoesB]; rw [show decide (a.ref = b.ref) = true from decide_eq_true ‹_›]; rfl, rfl⟩ (List.nil_sublist _) (by simp) | exact pn_done rfl rfl ⟨by simp only [outdoesB]; rw [show decide (a.ref = b.ref) = false from decide_eq_false ‹_›]; rfl, rfl⟩ (List.nil_sublist _) (by simp))

theorem c_apart (a b : Rec) (w : World) (ha : RecOk a) (hb : RecOk b) : Calls Tryd.prog 12 #[recV a, recV b] w (Ret w [] fun v H1 => v = .bool (apartB a b) ∧ H1 = []) := by
  refine fn_enter (args := [_, _]) Tryd.func12 rfl Tryd.ntmps12 rfl (Hp.nil w) ?_
  refine pn_seq ?_
  refine pn_plain [] rfl ?_
  refine TE_box rfl rfl trivial rfl fun b2 hb2 => ?_
  refine TE_box rfl rfl trivial rfl fun b3 hb3 => ?_
  refine TE_q rfl rfl (RD.assign rfl) rfl ?_
  refine TE_nil0 ?_
  refine pn_seq ?_
  refine pn_plain [] rfl ?_
  refine TE_q rfl rfl (RD.fieldAddr (o := 0) Tryd.runUnderlying30 rfl rfl Tryd.sizeOf23 rfl) rfl ?_
  refine TE_l rfl rfl trivial rfl (RD.loadA (i := 1) Tryd.isAgg23 Tryd.sizeOf23 rfl rfl (Nat.le_of_ble_eq_true rfl) (rec_dot _)) rfl ?_
  refine TE_q rfl rfl (RD.fieldAddr (o := 0) Tryd.runUnderlying30 rfl rfl Tryd.sizeOf23 rfl) rfl ?_
  refine TE_l rfl rfl trivial rfl (RD.loadA (i := 0) Tryd.isAgg23 Tryd.sizeOf23 rfl rfl (Nat.le_of_ble_eq_true rfl) (rec_dot _)) rfl ?_
  refine TE_q rfl rfl (RD.neq_agg Tryd.eqGuardType23 (eq_dot a.s a.c b.s b.c) rfl rfl) rfl ?_
  refine TE_q rfl rfl (RD.move rfl) rfl ?_
  (first | refine TE_isT ?_ | refine TE_isF ?_ | refine TE_dec (fun h105 => ?_) (fun h105 => ?_) | refine TE_ndec (fun h105 => ?_) (fun h105 => ?_) | refine TE_bool (fun h105 => ?_) (fun h105 => ?_))
  all_goals (first | (refine TE_s rfl rfl rfl rfl rfl ?_) | (refine TE_l rfl rfl ⟨_, rfl, rfl⟩ rfl (RD.loadA (i := 1) Tryd.isAgg30 Tryd.sizeOf30 rfl rfl (Nat.le_of_ble_eq_true rfl) (rec_all _)) rfl ?_))
  all_goals (first | (refine TE_s rfl rfl rfl rfl rfl ?_) | (refine TE_l rfl rfl ⟨_, rfl, rfl⟩ rfl (RD.loadA (i := 0) Tryd.isAgg30 Tryd.sizeOf30 rfl rfl (Nat.le_of_ble_eq_true rfl) (rec_all _)) rfl ?_))
  all_goals (first | (refine TE_s rfl rfl rfl rfl rfl ?_) | ((refine TE_call rfl rfl ⟨_, rfl, rfl⟩ Tryd.call10 rfl rfl rfl (fun w hs' => c_ahead a b w hb) ?_; rintro v13 H8 ⟨rfl, rfl⟩ -)))
  all_goals (first | (refine TE_s rfl rfl rfl rfl rfl ?_) | (refine TE_gq rfl rfl rfl rfl (RD.not rfl) rfl ?_))
  all_goals (first | (refine TE_q rfl rfl (RD.pickT rfl rfl) rfl ?_) | (refine TE_q rfl rfl (RD.pickF rfl rfl) rfl ?_))
  all_goals refine TE_q rfl rfl (RD.move rfl) rfl ?_
  all_goals (first | refine TE_isT ?_ | refine TE_isF ?_ | refine TE_dec (fun h111 => ?_) (fun h111 => ?_) | refine TE_ndec (fun h111 => ?_) (fun h111 => ?_) | refine TE_bool (fun h111 => ?_) (fun h111 => ?_))
  all_goals (first | (refine TE_s rfl rfl rfl rfl rfl ?_) | (refine TE_l rfl rfl ⟨_, rfl, rfl⟩ rfl (RD.loadA (i := 0) Tryd.isAgg30 Tryd.sizeOf30 rfl rfl (Nat.le_of_ble_eq_true rfl) (rec_all _)) rfl ?_))
  all_goals (first | (refine TE_s rfl rfl rfl rfl rfl ?_) | (refine TE_l rfl rfl ⟨_, rfl, rfl⟩ rfl (RD.loadA (i := 1) Tryd.isAgg30 Tryd.sizeOf30 rfl rfl (Nat.le_of_ble_eq_true rfl) (rec_all _)) rfl ?_))
  all_goals (first | (refine TE_s rfl rfl rfl rfl rfl ?_) | ((refine TE_call rfl rfl ⟨_, rfl, rfl⟩ Tryd.call10 rfl rfl rfl (fun w hs' => c_ahead b a w ha) ?_; rintro v19 H14 ⟨rfl, rfl⟩ -)))
  all_goals (first | (refine TE_s rfl rfl rfl rfl rfl ?_) | (refine TE_gq rfl rfl rfl rfl (RD.not rfl) rfl ?_))
  all_goals (first | (refine TE_q rfl rfl (RD.pickT rfl rfl) rfl ?_) | (refine TE_q rfl rfl (RD.pickF rfl rfl) rfl ?_))
  all_goals refine TE_q rfl rfl (RD.assign rfl) rfl ?_
  all_goals refine TE_nil0 ?_
  all_goals refine pn_ret ?_
  all_goals (first | exact pn_done rfl rfl ⟨by simp only [apartB, sameDot, *]; rfl, rfl⟩ (List.nil_sublist _) (by simp) | exact pn_done rfl rfl ⟨by simp_all [apartB, sameDot, tupV], rfl⟩ (List.nil_sublist _) (by simp))

end Go.Proofs.YthagkkmbbncclaaDoor
