import Derived.Test.YtiefjfcfijcgmaaGreatDoorOrd
import Derived.Test.YtiefjfcfijcgmaaGreatDoorEqr
import Derived.Test.YtiefjfcfijcgmaaGreatDoorR12
namespace Go.Proofs.YtiefjfcfijcgmaaGreatDoor
open Go Go.Mv
set_option maxRecDepth 8000
theorem c_r6Has (v : Nat → Int) (s c : Int) (w : World) (hv : VecOk v) : Calls Tryz.prog 94 #[vecV v, dotV s c] w (Ret w [] fun x H1 => x = .bool (vHas v s c) ∧ H1 = []) := by
  have hvs := hv s.toNat
  refine fn_enter (args := [_, _]) Tryz.func94 rfl Tryz.ntmps94 rfl (Hp.nil w) ?_
  refine pn_seq ?_
  refine pn_plain [] rfl ?_
  refine TE_box rfl rfl trivial rfl fun b2 hb2 => ?_
  refine TE_box rfl rfl trivial rfl fun b3 hb3 => ?_
  refine TE_q rfl rfl (RD.assign rfl) rfl ?_
  refine TE_nil0 ?_
  refine pn_seq ?_
  refine pn_draw [0, 5, 7, 9, 10] [] [0, 1] rfl (by kernel_rfl) (by kernel_rfl) rfl rfl ?_
  refine TE_q rfl rfl (RD.loadA (i := 0) Tryz.isAgg33 Tryz.sizeOf33 rfl rfl (Nat.le_of_ble_eq_true rfl) (dot_all _ _)) rfl ?_
  refine TE_call rfl rfl trivial Tryz.call79 rfl rfl rfl (fun w hs' => c_r5Check s c w) ?_
  rintro v6 H1 ⟨rfl, rfl⟩ -
  refine TE_q rfl rfl (RD.eql rfl rfl) rfl ?_
  refine TE_q rfl rfl (RD.move rfl) rfl ?_
  (first | refine TE_isT ?_ | refine TE_isF ?_ | refine TE_dec (fun h103 => ?_) (fun h103 => ?_) | refine TE_ndec (fun h103 => ?_) (fun h103 => ?_) | refine TE_bool (fun h103 => ?_) (fun h103 => ?_))
  all_goals (first | (refine TE_s rfl rfl rfl rfl rfl ?_) | (refine TE_gq rfl rfl rfl rfl (RD.fieldAddr (o := 1) Tryz.runUnderlying33 rfl rfl Tryz.sizeOf3 rfl) rfl ?_))
  all_goals (first | (refine TE_s rfl rfl rfl rfl rfl ?_) | (refine TE_gq rfl rfl rfl rfl (RD.load (i := 0) Tryz.isAgg3 rfl rfl rfl) rfl ?_))
  all_goals (first | (refine TE_s rfl rfl rfl rfl rfl ?_) | (refine TE_gq rfl rfl rfl rfl (RD.fieldAddr (o := 0) Tryz.runUnderlying33 rfl rfl Tryz.sizeOf3 rfl) rfl ?_))
  all_goals (first | (refine TE_s rfl rfl rfl rfl rfl ?_) | (refine TE_gq rfl rfl rfl rfl (RD.load (i := 0) Tryz.isAgg3 rfl rfl rfl) rfl ?_))
  all_goals (first | (refine TE_s rfl rfl rfl rfl rfl ?_) | (refine TE_gq rfl rfl rfl rfl (RD.indexAddrA Tryz.runUnderlying36 Tryz.sizeOf34 rfl rfl (by have := dotOk_iff.1 (err0 h103); omega) (by have := dotOk_iff.1 (err0 h103); omega)) rfl ?_))
  all_goals (first | (refine TE_s rfl rfl rfl rfl rfl ?_) | (refine TE_gq rfl rfl rfl rfl (RD.load (i := 1) Tryz.isAgg34 rfl rfl (vec_get (by have := dotOk_iff.1 (err0 h103); omega) (by have := dotOk_iff.1 (err0 h103); omega))) rfl ?_))
  all_goals (first | (refine TE_s rfl rfl rfl rfl rfl ?_) | (refine TE_gq rfl rfl rfl rfl (RD.convI Tryz.runUnderlying34 Tryz.runUnderlying3 rfl (by omega) (by omega)) rfl ?_))
  all_goals (first | (refine TE_s rfl rfl rfl rfl rfl ?_) | (refine TE_gq rfl rfl rfl rfl (RD.leq rfl rfl) rfl ?_))
  all_goals (first | (refine TE_q rfl rfl (RD.pickT rfl rfl) rfl ?_) | (refine TE_q rfl rfl (RD.pickF rfl rfl) rfl ?_))
  all_goals refine TE_q rfl rfl (RD.assign rfl) rfl ?_
  all_goals refine TE_nil ?_
  all_goals refine pn_ret ?_
  all_goals (first | exact pn_done rfl rfl ⟨by simp only [vHas, err0 h103]; rfl, rfl⟩ (List.nil_sublist _) (by simp) | exact pn_done rfl rfl ⟨by simp only [vHas, err1 h103]; rfl, rfl⟩ (List.nil_sublist _) (by simp))

theorem c_r12Ahead (a b : Rec) (w : World) (hb : RecOk b) : Calls Tryz.prog 81 #[recV a, recV b] w (Ret w [] fun v H1 => v = .bool (aheadB a b) ∧ H1 = []) := by
  refine fn_enter (args := [_, _]) Tryz.func81 rfl Tryz.ntmps81 rfl (Hp.nil w) ?_
  refine pn_seq ?_
  refine pn_plain [] rfl ?_
  refine TE_box rfl rfl trivial rfl fun b2 hb2 => ?_
  refine TE_box rfl rfl trivial rfl fun b3 hb3 => ?_
  refine TE_q rfl rfl (RD.assign rfl) rfl ?_
  refine TE_nil0 ?_
  refine pn_seq ?_
  refine pn_plain [] rfl ?_
  refine TE_q rfl rfl (RD.fieldAddr (o := 2) Tryz.runUnderlying40 rfl rfl Tryz.sizeOf36 rfl) rfl ?_
  refine TE_l rfl rfl trivial rfl (RD.loadA (i := 0) Tryz.isAgg36 Tryz.sizeOf36 rfl rfl (Nat.le_of_ble_eq_true rfl) (rec_ctx' _)) rfl ?_
  refine TE_q rfl rfl (RD.fieldAddr (o := 0) Tryz.runUnderlying40 rfl rfl Tryz.sizeOf33 rfl) rfl ?_
  refine TE_l rfl rfl trivial rfl (RD.loadA (i := 1) Tryz.isAgg33 Tryz.sizeOf33 rfl rfl (Nat.le_of_ble_eq_true rfl) (rec_dot _)) rfl ?_
  refine TE_call rfl rfl trivial Tryz.call94 rfl rfl rfl (fun w hs' => c_r6Has b.ctx a.s a.c w hb.ctx) ?_
  rintro v9 H4 ⟨rfl, rfl⟩ -
  refine TE_q rfl rfl (RD.assign rfl) rfl ?_
  refine TE_nil0 ?_
  refine pn_ret ?_
  exact pn_done rfl rfl ⟨rfl, rfl⟩ (List.nil_sublist _) (by simp)

theorem c_r12Outdoes (a b : Rec) (w : World) (ha : RecOk a) : Calls Tryz.prog 45 #[recV a, recV b] w (Ret w [] fun v H1 => v = .bool (outdoesB a b) ∧ H1 = []) := by
  refine fn_enter (args := [_, _]) Tryz.func45 rfl Tryz.ntmps45 rfl (Hp.nil w) ?_
  refine pn_seq ?_
  refine pn_plain [] rfl ?_
  refine TE_box rfl rfl trivial rfl fun b2 hb2 => ?_
  refine TE_box rfl rfl trivial rfl fun b3 hb3 => ?_
  refine TE_q rfl rfl (RD.assign rfl) rfl ?_
  refine TE_nil0 ?_
  refine pn_seq ?_
  refine pn_plain [] rfl ?_
  refine TE_l rfl rfl trivial rfl (RD.loadA (i := 0) Tryz.isAgg40 Tryz.sizeOf40 rfl rfl (Nat.le_of_ble_eq_true rfl) (rec_all _)) rfl ?_
  refine TE_l rfl rfl trivial rfl (RD.loadA (i := 1) Tryz.isAgg40 Tryz.sizeOf40 rfl rfl (Nat.le_of_ble_eq_true rfl) (rec_all _)) rfl ?_
  refine TE_call rfl rfl trivial Tryz.call81 rfl rfl rfl (fun w hs' => c_r12Ahead b a w ha) ?_
  rintro v8 H2 ⟨rfl, rfl⟩ -
  refine TE_q rfl rfl (RD.assign rfl) rfl ?_
  refine TE_nil0 ?_
  refine pn_seq ?_
  refine pn_plain [] rfl ?_
  refine TE_q rfl rfl (RD.move rfl) rfl ?_
  refine TE_q rfl rfl (RD.move rfl) rfl ?_
  (first | refine TE_isT ?_ | refine TE_isF ?_ | refine TE_dec (fun h201 => ?_) (fun h201 => ?_) | refine TE_ndec (fun h201 => ?_) (fun h201 => ?_) | refine TE_bool (fun h201 => ?_) (fun h201 => ?_))
  all_goals (first | (refine TE_s rfl rfl rfl rfl rfl ?_) | (refine TE_gq rfl rfl rfl rfl (RD.fieldAddr (o := 18) Tryz.runUnderlying40 rfl rfl Tryz.sizeOf9 rfl) rfl ?_))
  all_goals (first | (refine TE_s rfl rfl rfl rfl rfl ?_) | (refine TE_l rfl rfl ⟨_, rfl, rfl⟩ rfl (RD.load (i := 1) Tryz.isAgg9 rfl rfl rfl) rfl ?_))
  all_goals (first | (refine TE_s rfl rfl rfl rfl rfl ?_) | (refine TE_gq rfl rfl rfl rfl (RD.fieldAddr (o := 18) Tryz.runUnderlying40 rfl rfl Tryz.sizeOf9 rfl) rfl ?_))
  all_goals (first | (refine TE_s rfl rfl rfl rfl rfl ?_) | (refine TE_l rfl rfl ⟨_, rfl, rfl⟩ rfl (RD.load (i := 0) Tryz.isAgg9 rfl rfl rfl) rfl ?_))
  all_goals (first | (refine TE_s rfl rfl rfl rfl rfl ?_) | (refine TE_gq rfl rfl rfl rfl (RD.eql_string rfl rfl) rfl ?_))
  all_goals (first | (refine TE_q rfl rfl (RD.pickT rfl rfl) rfl ?_) | (refine TE_q rfl rfl (RD.pickF rfl rfl) rfl ?_))
  all_goals refine TE_q rfl rfl (RD.assign rfl) rfl ?_
  all_goals refine TE_nil0 ?_
  all_goals refine pn_ret ?_
  all_goals (first | exact pn_done rfl rfl ⟨by simp_all [outdoesB, tupV], rfl⟩ (List.nil_sublist _) (by simp))

def cmp05 (s c s' c' : Int) : Int := if s < s' ∨ (s = s' ∧ c < c') then -1 else if s = s' ∧ c = c' then 0 else 1
theorem cmp05_neg {s c s' c' : Int} : cmp05 s c s' c' < 0 ↔ s < s' ∨ (s = s' ∧ c < c') := by
  unfold cmp05; split
  · rename_i h; simp [h]
  · rename_i h; split <;> simp [h]

theorem c_r5Cmp (s c s' c' : Int) (w : World) : Calls Tryz.prog 44 #[dotV s c, dotV s' c'] w (Ret w [] fun v H1 => v = .int .i64 (cmp05 s c s' c') ∧ H1 = []) := by
  refine fn_enter (args := [_, _]) Tryz.func44 rfl Tryz.ntmps44 rfl (Hp.nil w) ?_
  refine pn_seq ?_
  refine pn_plain [] rfl ?_
  refine TE_box rfl rfl trivial rfl fun b2 hb2 => ?_
  refine TE_box rfl rfl trivial rfl fun b3 hb3 => ?_
  refine TE_q rfl rfl (RD.assign rfl) rfl ?_
  refine TE_nil0 ?_
  refine pn_seq ?_
  refine pn_seq ?_
  refine pn_plain [] rfl ?_
  refine TE_q rfl rfl (RD.fieldAddr (o := 0) Tryz.runUnderlying33 rfl rfl Tryz.sizeOf3 rfl) rfl ?_
  refine TE_l rfl rfl trivial rfl (RD.load (i := 1) Tryz.isAgg3 rfl rfl rfl) rfl ?_
  refine TE_q rfl rfl (RD.fieldAddr (o := 0) Tryz.runUnderlying33 rfl rfl Tryz.sizeOf3 rfl) rfl ?_
  refine TE_l rfl rfl trivial rfl (RD.load (i := 0) Tryz.isAgg3 rfl rfl rfl) rfl ?_
  refine TE_q rfl rfl (RD.lss rfl rfl) rfl ?_
  refine TE_q rfl rfl (RD.move rfl) rfl ?_
  (first | refine TE_isT ?_ | refine TE_isF ?_ | refine TE_dec (fun h105 => ?_) (fun h105 => ?_) | refine TE_ndec (fun h105 => ?_) (fun h105 => ?_) | refine TE_bool (fun h105 => ?_) (fun h105 => ?_))
  all_goals (first | (refine TE_s rfl rfl rfl rfl rfl ?_) | (refine TE_gq rfl rfl rfl rfl (RD.fieldAddr (o := 0) Tryz.runUnderlying33 rfl rfl Tryz.sizeOf3 rfl) rfl ?_))
  all_goals (first | (refine TE_s rfl rfl rfl rfl rfl ?_) | (refine TE_l rfl rfl ⟨_, rfl, rfl⟩ rfl (RD.load (i := 1) Tryz.isAgg3 rfl rfl rfl) rfl ?_))
  all_goals (first | (refine TE_s rfl rfl rfl rfl rfl ?_) | (refine TE_gq rfl rfl rfl rfl (RD.fieldAddr (o := 0) Tryz.runUnderlying33 rfl rfl Tryz.sizeOf3 rfl) rfl ?_))
  all_goals (first | (refine TE_s rfl rfl rfl rfl rfl ?_) | (refine TE_l rfl rfl ⟨_, rfl, rfl⟩ rfl (RD.load (i := 0) Tryz.isAgg3 rfl rfl rfl) rfl ?_))
  all_goals (first | (refine TE_s rfl rfl rfl rfl rfl ?_) | (refine TE_gq rfl rfl rfl rfl (RD.eql rfl rfl) rfl ?_))
  all_goals (first | (refine TE_s rfl rfl rfl rfl rfl ?_) | (refine TE_gq rfl rfl rfl rfl (RD.move rfl) rfl ?_))
  all_goals (first | refine TE_isT ?_ | refine TE_isF ?_ | refine TE_dec (fun h111 => ?_) (fun h111 => ?_) | refine TE_ndec (fun h111 => ?_) (fun h111 => ?_) | refine TE_bool (fun h111 => ?_) (fun h111 => ?_) | skip)
  all_goals (first | (refine TE_s rfl rfl rfl rfl rfl ?_) | (refine TE_su rfl rfl rfl rfl ?_) | (refine TE_gq rfl rfl rfl rfl (RD.fieldAddr (o := 1) Tryz.runUnderlying33 rfl rfl Tryz.sizeOf3 rfl) rfl ?_))
  all_goals (first | (refine TE_s rfl rfl rfl rfl rfl ?_) | (refine TE_su rfl rfl rfl rfl ?_) | (refine TE_l rfl rfl ⟨_, rfl, rfl⟩ rfl (RD.load (i := 1) Tryz.isAgg3 rfl rfl rfl) rfl ?_))
  all_goals (first | (refine TE_s rfl rfl rfl rfl rfl ?_) | (refine TE_su rfl rfl rfl rfl ?_) | (refine TE_gq rfl rfl rfl rfl (RD.fieldAddr (o := 1) Tryz.runUnderlying33 rfl rfl Tryz.sizeOf3 rfl) rfl ?_))
  all_goals (first | (refine TE_s rfl rfl rfl rfl rfl ?_) | (refine TE_su rfl rfl rfl rfl ?_) | (refine TE_l rfl rfl ⟨_, rfl, rfl⟩ rfl (RD.load (i := 0) Tryz.isAgg3 rfl rfl rfl) rfl ?_))
  all_goals (first | (refine TE_s rfl rfl rfl rfl rfl ?_) | (refine TE_su rfl rfl rfl rfl ?_) | (refine TE_gq rfl rfl rfl rfl (RD.lss rfl rfl) rfl ?_))
  all_goals (first | (refine TE_s rfl rfl rfl rfl rfl ?_) | (refine TE_gq rfl rfl rfl rfl (RD.pickT rfl rfl) rfl ?_) | (refine TE_gq rfl rfl rfl rfl (RD.pickF rfl rfl) rfl ?_))
  all_goals (first | (refine TE_q rfl rfl (RD.pickT rfl rfl) rfl ?_) | (refine TE_q rfl rfl (RD.pickF rfl rfl) rfl ?_))
  all_goals refine TE_nil0 ?_
  all_goals first
    | (
        refine pn_condT rfl ?_
        refine pn_seq ?_
        refine pn_plain [] rfl ?_
        refine TE_q rfl rfl (RD.assign rfl) rfl ?_
        refine TE_nil0 ?_
        refine pn_ret ?_
        first | exact pn_done rfl rfl ⟨by unfold cmp05; rw [if_pos (by omega)]; rfl, rfl⟩ (List.nil_sublist _) (by simp))
    | (
        refine pn_condF rfl ?_
        refine pn_skip ?_
        refine pn_seq ?_
        refine pn_seq ?_
        refine pn_plain [] rfl ?_
        refine TE_l rfl rfl trivial rfl (RD.loadA (i := 1) Tryz.isAgg33 Tryz.sizeOf33 rfl rfl (Nat.le_of_ble_eq_true rfl) (dot_all _ _)) rfl ?_
        refine TE_l rfl rfl trivial rfl (RD.loadA (i := 0) Tryz.isAgg33 Tryz.sizeOf33 rfl rfl (Nat.le_of_ble_eq_true rfl) (dot_all _ _)) rfl ?_
        refine TE_q rfl rfl (RD.eql_agg Tryz.eqGuardType33 (eq_dot s c s' c') rfl rfl) rfl ?_
        refine TE_nil0 ?_
        first | refine pn_condD rfl (fun hc1 => ?_) (fun hc1 => ?_) | refine pn_condN rfl (fun hc1 => ?_) (fun hc1 => ?_) | refine pn_cond rfl (fun hc1 => ?_) (fun hc1 => ?_)
        · refine pn_seq ?_
          refine pn_plain [] rfl ?_
          refine TE_q rfl rfl (RD.assign rfl) rfl ?_
          refine TE_nil0 ?_
          refine pn_ret ?_
          first | exact pn_done rfl rfl ⟨by unfold cmp05; rw [if_neg (by omega), if_pos (by simp_all)]; rfl, rfl⟩ (List.nil_sublist _) (by simp)
        · refine pn_skip ?_
          refine pn_seq ?_
          refine pn_plain [] rfl ?_
          refine TE_q rfl rfl (RD.assign rfl) rfl ?_
          refine TE_nil0 ?_
          refine pn_ret ?_
          first | exact pn_done rfl rfl ⟨by unfold cmp05; rw [if_neg (by omega), if_neg (by simp_all)]; rfl, rfl⟩ (List.nil_sublist _) (by simp))
    | (
        first | refine pn_condD rfl (fun hc0 => ?_) (fun hc0 => ?_) | refine pn_condN rfl (fun hc0 => ?_) (fun hc0 => ?_) | refine pn_cond rfl (fun hc0 => ?_) (fun hc0 => ?_)
        · refine pn_seq ?_
          refine pn_plain [] rfl ?_
          refine TE_q rfl rfl (RD.assign rfl) rfl ?_
          refine TE_nil0 ?_
          refine pn_ret ?_
          first | exact pn_done rfl rfl ⟨by unfold cmp05; rw [if_pos (by omega)]; rfl, rfl⟩ (List.nil_sublist _) (by simp)
        · refine pn_skip ?_
          refine pn_seq ?_
          refine pn_seq ?_
          refine pn_plain [] rfl ?_
          refine TE_l rfl rfl trivial rfl (RD.loadA (i := 1) Tryz.isAgg33 Tryz.sizeOf33 rfl rfl (Nat.le_of_ble_eq_true rfl) (dot_all _ _)) rfl ?_
          refine TE_l rfl rfl trivial rfl (RD.loadA (i := 0) Tryz.isAgg33 Tryz.sizeOf33 rfl rfl (Nat.le_of_ble_eq_true rfl) (dot_all _ _)) rfl ?_
          refine TE_q rfl rfl (RD.eql_agg Tryz.eqGuardType33 (eq_dot s c s' c') rfl rfl) rfl ?_
          refine TE_nil0 ?_
          first | refine pn_condD rfl (fun hc1 => ?_) (fun hc1 => ?_) | refine pn_condN rfl (fun hc1 => ?_) (fun hc1 => ?_) | refine pn_cond rfl (fun hc1 => ?_) (fun hc1 => ?_)
          · refine pn_seq ?_
            refine pn_plain [] rfl ?_
            refine TE_q rfl rfl (RD.assign rfl) rfl ?_
            refine TE_nil0 ?_
            refine pn_ret ?_
            first | exact pn_done rfl rfl ⟨by unfold cmp05; rw [if_neg (by omega), if_pos (by simp_all)]; rfl, rfl⟩ (List.nil_sublist _) (by simp)
          · refine pn_skip ?_
            refine pn_seq ?_
            refine pn_plain [] rfl ?_
            refine TE_q rfl rfl (RD.assign rfl) rfl ?_
            refine TE_nil0 ?_
            refine pn_ret ?_
            first | exact pn_done rfl rfl ⟨by unfold cmp05; rw [if_neg (by omega), if_neg (by simp_all)]; rfl, rfl⟩ (List.nil_sublist _) (by simp))

end Go.Proofs.YtiefjfcfijcgmaaGreatDoor
