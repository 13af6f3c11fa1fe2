import Derived.Test.YtiefjfcfijcgmaaGreatDoorR1s
import Derived.Test.YtiefjfcfijcgmaaGreatDoorRc2
import Derived.Test.YtiefjfcfijcgmaaGreatDoorMvB
import Derived.Test.YtiefjfcfijcgmaaGreatDoorEqr
import Derived.Test.YtiefjfcfijcgmaaGreatDoorMvC
namespace Go.Proofs.YtiefjfcfijcgmaaGreatDoor
open Go Go.Mv
set_option maxRecDepth 8000
theorem c_r5Check (s c : Int) (w : World) : Calls Tryz.prog 79 #[dotV s c] w (Ret w [] fun v H1 => v = .int .i64 (err (dotOk s c) 50) ∧ H1 = []) := by
  refine fn_enter (args := [_]) Tryz.func79 rfl Tryz.ntmps79 rfl (Hp.nil w) ?_
  refine pn_seq ?_
  refine pn_plain [] rfl ?_
  refine TE_box rfl rfl trivial rfl fun b1 hb1 => ?_
  refine TE_q rfl rfl (RD.assign rfl) rfl ?_
  refine TE_nil0 ?_
  refine pn_seq ?_
  refine pn_seq ?_
  refine pn_plain [] rfl ?_
  refine TE_q rfl rfl (RD.fieldAddr (o := 0) Tryz.runUnderlying33 rfl rfl Tryz.sizeOf3 rfl) rfl ?_
  refine TE_l rfl rfl trivial rfl (RD.load (i := 0) Tryz.isAgg3 rfl rfl rfl) rfl ?_
  refine TE_q rfl rfl (RD.lss rfl rfl) rfl ?_
  refine TE_q rfl rfl (RD.move rfl) rfl ?_
  (first | refine TE_isT ?_ | refine TE_isF ?_ | refine TE_dec (fun h103 => ?_) (fun h103 => ?_) | refine TE_ndec (fun h103 => ?_) (fun h103 => ?_) | refine TE_bool (fun h103 => ?_) (fun h103 => ?_))
  all_goals (first | (refine TE_s rfl rfl rfl rfl rfl ?_) | (refine TE_gq rfl rfl rfl rfl (RD.fieldAddr (o := 0) Tryz.runUnderlying33 rfl rfl Tryz.sizeOf3 rfl) rfl ?_))
  all_goals (first | (refine TE_s rfl rfl rfl rfl rfl ?_) | (refine TE_l rfl rfl ⟨_, rfl, rfl⟩ rfl (RD.load (i := 0) Tryz.isAgg3 rfl rfl rfl) rfl ?_))
  all_goals (first | (refine TE_s rfl rfl rfl rfl rfl ?_) | (refine TE_gq rfl rfl rfl rfl (RD.gtr rfl rfl) rfl ?_))
  all_goals (first | (refine TE_q rfl rfl (RD.pickT rfl rfl) rfl ?_) | (refine TE_q rfl rfl (RD.pickF rfl rfl) rfl ?_))
  all_goals refine TE_q rfl rfl (RD.move rfl) rfl ?_
  all_goals (first | refine TE_isT ?_ | refine TE_isF ?_ | refine TE_dec (fun h108 => ?_) (fun h108 => ?_) | refine TE_ndec (fun h108 => ?_) (fun h108 => ?_) | refine TE_bool (fun h108 => ?_) (fun h108 => ?_))
  all_goals (first | (refine TE_s rfl rfl rfl rfl rfl ?_) | (refine TE_gq rfl rfl rfl rfl (RD.fieldAddr (o := 1) Tryz.runUnderlying33 rfl rfl Tryz.sizeOf3 rfl) rfl ?_))
  all_goals (first | (refine TE_s rfl rfl rfl rfl rfl ?_) | (refine TE_l rfl rfl ⟨_, rfl, rfl⟩ rfl (RD.load (i := 0) Tryz.isAgg3 rfl rfl rfl) rfl ?_))
  all_goals (first | (refine TE_s rfl rfl rfl rfl rfl ?_) | (refine TE_gq rfl rfl rfl rfl (RD.lss rfl rfl) rfl ?_))
  all_goals (first | (refine TE_q rfl rfl (RD.pickT rfl rfl) rfl ?_) | (refine TE_q rfl rfl (RD.pickF rfl rfl) rfl ?_))
  all_goals refine TE_q rfl rfl (RD.move rfl) rfl ?_
  all_goals (first | refine TE_isT ?_ | refine TE_isF ?_ | refine TE_dec (fun h113 => ?_) (fun h113 => ?_) | refine TE_ndec (fun h113 => ?_) (fun h113 => ?_) | refine TE_bool (fun h113 => ?_) (fun h113 => ?_))
  all_goals (first | (refine TE_s rfl rfl rfl rfl rfl ?_) | (refine TE_gq rfl rfl rfl rfl (RD.fieldAddr (o := 1) Tryz.runUnderlying33 rfl rfl Tryz.sizeOf3 rfl) rfl ?_))
  all_goals (first | (refine TE_s rfl rfl rfl rfl rfl ?_) | (refine TE_l rfl rfl ⟨_, rfl, rfl⟩ rfl (RD.load (i := 0) Tryz.isAgg3 rfl rfl rfl) rfl ?_))
  all_goals (first | (refine TE_s rfl rfl rfl rfl rfl ?_) | (refine TE_gq rfl rfl rfl rfl (RD.gtr rfl rfl) rfl ?_))
  all_goals (first | (refine TE_q rfl rfl (RD.pickT rfl rfl) rfl ?_) | (refine TE_q rfl rfl (RD.pickF rfl rfl) rfl ?_))
  all_goals refine TE_nil0 ?_
  all_goals first
    | (
        refine pn_condT rfl ?_
        refine pn_seq ?_
        refine pn_plain [] rfl ?_
        refine TE_q rfl rfl (RD.assign rfl) rfl ?_
        refine TE_nil0 ?_
        refine pn_ret ?_
        first | exact pn_done rfl rfl ⟨by rw [show dotOk s c = true from dotOk_iff.2 (by omega)]; rfl, rfl⟩ (List.nil_sublist _) (by simp) | exact pn_done rfl rfl ⟨by rw [show dotOk s c = false from dotOk_no (by omega)]; rfl, rfl⟩ (List.nil_sublist _) (by simp))
    | (
        refine pn_condF rfl ?_
        refine pn_skip ?_
        refine pn_seq ?_
        refine pn_plain [] rfl ?_
        refine TE_q rfl rfl (RD.assign rfl) rfl ?_
        refine TE_nil0 ?_
        refine pn_ret ?_
        first | exact pn_done rfl rfl ⟨by rw [show dotOk s c = true from dotOk_iff.2 (by omega)]; rfl, rfl⟩ (List.nil_sublist _) (by simp) | exact pn_done rfl rfl ⟨by rw [show dotOk s c = false from dotOk_no (by omega)]; rfl, rfl⟩ (List.nil_sublist _) (by simp))
    | (
        first | refine pn_condD rfl (fun hc0 => ?_) (fun hc0 => ?_) | refine pn_condN rfl (fun hc0 => ?_) (fun hc0 => ?_) | refine pn_cond rfl (fun hc0 => ?_) (fun hc0 => ?_)
        · refine pn_seq ?_
          refine pn_plain [] rfl ?_
          refine TE_q rfl rfl (RD.assign rfl) rfl ?_
          refine TE_nil0 ?_
          refine pn_ret ?_
          first | exact pn_done rfl rfl ⟨by rw [show dotOk s c = true from dotOk_iff.2 (by omega)]; rfl, rfl⟩ (List.nil_sublist _) (by simp) | exact pn_done rfl rfl ⟨by rw [show dotOk s c = false from dotOk_no (by omega)]; rfl, rfl⟩ (List.nil_sublist _) (by simp)
        · refine pn_skip ?_
          refine pn_seq ?_
          refine pn_plain [] rfl ?_
          refine TE_q rfl rfl (RD.assign rfl) rfl ?_
          refine TE_nil0 ?_
          refine pn_ret ?_
          first | exact pn_done rfl rfl ⟨by rw [show dotOk s c = true from dotOk_iff.2 (by omega)]; rfl, rfl⟩ (List.nil_sublist _) (by simp) | exact pn_done rfl rfl ⟨by rw [show dotOk s c = false from dotOk_no (by omega)]; rfl, rfl⟩ (List.nil_sublist _) (by simp))

end Go.Proofs.YtiefjfcfijcgmaaGreatDoor
