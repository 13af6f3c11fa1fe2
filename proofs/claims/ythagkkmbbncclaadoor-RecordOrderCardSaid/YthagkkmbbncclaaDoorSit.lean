import Derived.Test.YthagkkmbbncclaaDoorAlv
namespace Go.Proofs.YthagkkmbbncclaaDoor
open Go Go.Mv
set_option maxRecDepth 8000
theorem recOk_parts {r : Rec} (h : recOkB r = true) : dotOk r.s r.c = true ∧ r.ctx r.s.toNat = r.c - 1 := by
  simp only [recOkB, Bool.and_eq_true, decide_eq_true_eq] at h
  exact ⟨h.1.1.1, h.1.1.2⟩
theorem ahead_self {a : Rec} (h : recOkB a = true) : aheadB a a = false := by
  have h2 := (recOk_parts h).2
  simp only [aheadB, vHas, h2]
  rw [show decide (a.c ≤ a.c - 1) = false from by simp; omega]
  simp
theorem outdoes_self {a : Rec} (h : recOkB a = true) : outdoesB a a = false := by
  simp only [outdoesB, ahead_self h, Bool.and_false]
theorem outdoes_apart {a b : Rec} (h : outdoesB a b = true) : apartB a b = false ∧ a.ref = b.ref := by
  simp only [outdoesB, Bool.and_eq_true, decide_eq_true_eq] at h
  exact ⟨by simp [apartB, h.2], h.1⟩
theorem sameDot_symm (a b : Rec) : sameDot a b = sameDot b a := by
  simp only [sameDot, eq_comm]
theorem apart_symm (a b : Rec) : apartB a b = apartB b a := by
  simp only [apartB, sameDot_symm a b]
  cases sameDot b a <;> cases aheadB a b <;> cases aheadB b a <;> rfl
theorem ahead_same {a b : Rec} (ha : recOkB a = true) (hb : recOkB b = true) (hs : a.s = b.s) : aheadB a b = decide (a.c < b.c) := by
  obtain ⟨ha1, _⟩ := recOk_parts ha
  obtain ⟨_, hb2⟩ := recOk_parts hb
  rw [← hs] at hb2
  simp only [aheadB, vHas, ha1, hb2, Bool.true_and]
  by_cases h : a.c < b.c
  · rw [decide_eq_true h, decide_eq_true (show a.c ≤ b.c - 1 by omega)]
  · rw [decide_eq_false h, decide_eq_false (show ¬ a.c ≤ b.c - 1 by omega)]
theorem apart_same {a b : Rec} (ha : recOkB a = true) (hb : recOkB b = true) (hs : a.s = b.s) : apartB a b = false := by
  simp only [apartB, ahead_same ha hb hs, ahead_same hb ha hs.symm, sameDot, hs, decide_true, Bool.true_and]
  rcases Int.lt_trichotomy a.c b.c with h | h | h
  · simp [h]
  · simp [h]
  · simp [h]

set_option maxHeartbeats 4000000 in

theorem c_RecordSites (a b : Rec) (g : Obj) (w : World) (ha : RecOk a) (hb : RecOk b) (hg : GOk g) (hH : Hp [(0, g)] w) : Calls Tryd.prog 3 #[recV a, recV b] w (Ret w [] fun v H1 => v = .bool true ∧ H1 = []) := by
  refine fn_enter (args := [_, _]) Tryd.func3 rfl Tryd.ntmps3 rfl hH ?_
  refine pn_seq ?_
  refine pn_plain [] rfl ?_
  refine TE_box rfl rfl trivial rfl fun b2 hb2 => ?_
  refine TE_box rfl rfl trivial rfl fun b3 hb3 => ?_
  refine TE_q rfl rfl (RD.assign rfl) rfl ?_
  refine TE_nil0 ?_
  refine pn_seq ?_
  refine pn_plain [] rfl ?_
  refine TE_call rfl rfl trivial Tryd.call8 rfl rfl rfl (fun w hs' => c_alive g w hg (hs'.hp.left.sub (.cons _ (.cons _ (List.Sublist.refl _))))) ?_
  rintro v6 H0 ⟨rfl, rfl⟩ -
  refine TE_q rfl rfl (RD.assign rfl) rfl ?_
  refine TE_nil0 ?_
  refine pn_seq ?_
  refine pn_seq ?_
  refine pn_plain [2, 7] rfl ?_
  refine TE_q rfl rfl (RD.fieldAddr (o := 18) Tryd.runUnderlying30 rfl rfl Tryd.sizeOf9 rfl) rfl ?_
  refine TE_l rfl rfl trivial rfl (RD.load (i := 1) Tryd.isAgg9 rfl rfl rfl) rfl ?_
  refine TE_q rfl rfl (RD.len_string Tryd.runUnderlying9 rfl) rfl ?_
  refine TE_q rfl rfl (RD.gtr rfl rfl) rfl ?_
  refine TE_q rfl rfl (RD.move rfl) rfl ?_
  (first | refine TE_isT ?_ | refine TE_isF ?_ | refine TE_dec (fun h204 => ?_) (fun h204 => ?_) | refine TE_ndec (fun h204 => ?_) (fun h204 => ?_) | refine TE_bool (fun h204 => ?_) (fun h204 => ?_))
  all_goals (first | (refine TE_s rfl rfl rfl rfl rfl ?_) | (refine TE_gq rfl rfl rfl rfl (RD.fieldAddr (o := 18) Tryd.runUnderlying30 rfl rfl Tryd.sizeOf9 rfl) rfl ?_))
  all_goals (first | (refine TE_s rfl rfl rfl rfl rfl ?_) | (refine TE_l rfl rfl ⟨_, rfl, rfl⟩ rfl (RD.load (i := 0) Tryd.isAgg9 rfl rfl rfl) rfl ?_))
  all_goals (first | (refine TE_s rfl rfl rfl rfl rfl ?_) | (refine TE_gq rfl rfl rfl rfl (RD.len_string Tryd.runUnderlying9 rfl) rfl ?_))
  all_goals (first | (refine TE_s rfl rfl rfl rfl rfl ?_) | (refine TE_gq rfl rfl rfl rfl (RD.gtr rfl rfl) rfl ?_))
  all_goals (first | (refine TE_q rfl rfl (RD.pickT rfl rfl) rfl ?_) | (refine TE_q rfl rfl (RD.pickF rfl rfl) rfl ?_))
  all_goals refine TE_q rfl rfl (RD.move rfl) rfl ?_
  all_goals (first | refine TE_isT ?_ | refine TE_isF ?_ | refine TE_dec (fun h210 => ?_) (fun h210 => ?_) | refine TE_ndec (fun h210 => ?_) (fun h210 => ?_) | refine TE_bool (fun h210 => ?_) (fun h210 => ?_))
  all_goals (first | (refine TE_s rfl rfl rfl rfl rfl ?_) | (refine TE_l rfl rfl ⟨_, rfl, rfl⟩ rfl (RD.loadA (i := 1) Tryd.isAgg30 Tryd.sizeOf30 rfl rfl (Nat.le_of_ble_eq_true rfl) (rec_all _)) rfl ?_))
  all_goals (first | (refine TE_s rfl rfl rfl rfl rfl ?_) | ((refine TE_call rfl rfl ⟨_, rfl, rfl⟩ Tryd.call9 rfl rfl rfl (fun w hs' => c_recCheck a g w ha hg (by omega) (hs'.hp.left.sub (.cons _ (.cons _ (List.Sublist.refl _))))) ?_; rintro v19 H12 ⟨rfl, rfl⟩ -)))
  all_goals (first | (refine TE_s rfl rfl rfl rfl rfl ?_) | (refine TE_gq rfl rfl rfl rfl (RD.neq rfl rfl) rfl ?_))
  all_goals (first | (refine TE_q rfl rfl (RD.pickT rfl rfl) rfl ?_) | (refine TE_q rfl rfl (RD.pickF rfl rfl) rfl ?_))
  all_goals refine TE_q rfl rfl (RD.move rfl) rfl ?_
  all_goals (first | refine TE_isT ?_ | refine TE_isF ?_ | refine TE_dec (fun h215 => ?_) (fun h215 => ?_) | refine TE_ndec (fun h215 => ?_) (fun h215 => ?_) | refine TE_bool (fun h215 => ?_) (fun h215 => ?_))
  all_goals (first | (refine TE_s rfl rfl rfl rfl rfl ?_) | (refine TE_l rfl rfl ⟨_, rfl, rfl⟩ rfl (RD.loadA (i := 0) Tryd.isAgg30 Tryd.sizeOf30 rfl rfl (Nat.le_of_ble_eq_true rfl) (rec_all _)) rfl ?_))
  all_goals (first | (refine TE_s rfl rfl rfl rfl rfl ?_) | ((refine TE_call rfl rfl ⟨_, rfl, rfl⟩ Tryd.call9 rfl rfl rfl (fun w hs' => c_recCheck b g w hb hg (by omega) (hs'.hp.left.sub (.cons _ (.cons _ (List.Sublist.refl _))))) ?_; rintro v24 H17 ⟨rfl, rfl⟩ -)))
  all_goals (first | (refine TE_s rfl rfl rfl rfl rfl ?_) | (refine TE_gq rfl rfl rfl rfl (RD.neq rfl rfl) rfl ?_))
  all_goals (first | (refine TE_q rfl rfl (RD.pickT rfl rfl) rfl ?_) | (refine TE_q rfl rfl (RD.pickF rfl rfl) rfl ?_))
  all_goals refine TE_q rfl rfl (RD.move rfl) rfl ?_
  all_goals (first | refine TE_isT ?_ | refine TE_isF ?_ | refine TE_dec (fun h220 => ?_) (fun h220 => ?_) | refine TE_ndec (fun h220 => ?_) (fun h220 => ?_) | refine TE_bool (fun h220 => ?_) (fun h220 => ?_))
  all_goals (first | (refine TE_s rfl rfl rfl rfl rfl ?_) | (refine TE_gq rfl rfl rfl rfl (RD.move rfl) rfl ?_))
  all_goals (first | (refine TE_s rfl rfl rfl rfl rfl ?_) | (refine TE_gq rfl rfl rfl rfl (RD.not rfl) rfl ?_))
  all_goals (first | (refine TE_q rfl rfl (RD.pickT rfl rfl) rfl ?_) | (refine TE_q rfl rfl (RD.pickF rfl rfl) rfl ?_))
  all_goals refine TE_nil0 ?_
  all_goals first
    | (
        refine pn_condT rfl ?_
        refine pn_seq ?_
        refine pn_plain [] rfl ?_
        refine TE_q rfl rfl (RD.move rfl) rfl ?_
        refine TE_q rfl rfl (RD.assign rfl) rfl ?_
        refine TE_nil0 ?_
        refine pn_ret ?_
        exact pn_done rfl rfl ⟨rfl, rfl⟩ (List.nil_sublist _) (by simp))
    | (
        refine pn_condF rfl ?_
        refine pn_skip ?_
        refine pn_seq ?_
        refine pn_seq ?_
        refine pn_draw [0, 1, 4, 5, 9, 10, 13, 14, 18, 20, 26, 27, 29, 30] [] [0, 1, 2] rfl (by kernel_rfl) (by kernel_rfl) rfl rfl ?_
        refine TE_q rfl rfl (RD.loadA (i := 1) Tryd.isAgg30 Tryd.sizeOf30 rfl rfl (Nat.le_of_ble_eq_true rfl) (rec_all _)) rfl ?_
        have hoka := err0 h215; have hokb := err0 h220
        refine TE_q rfl rfl (RD.loadA (i := 1) Tryd.isAgg30 Tryd.sizeOf30 rfl rfl (Nat.le_of_ble_eq_true rfl) (rec_all _)) rfl ?_
        refine TE_call rfl rfl trivial Tryd.call10 rfl rfl rfl (fun w hs' => c_ahead a a w ha) ?_
        rintro v34 H2 ⟨rfl, rfl⟩ -; rw [ahead_self hoka]
        refine TE_q rfl rfl (RD.move rfl) rfl ?_
        (first | refine TE_isT ?_ | refine TE_isF ?_ | refine TE_dec (fun h403 => ?_) (fun h403 => ?_) | refine TE_ndec (fun h403 => ?_) (fun h403 => ?_) | refine TE_bool (fun h403 => ?_) (fun h403 => ?_))
        all_goals (first | (refine TE_s rfl rfl rfl rfl rfl ?_) | (refine TE_gq rfl rfl rfl rfl (RD.loadA (i := 0) Tryd.isAgg30 Tryd.sizeOf30 rfl rfl (Nat.le_of_ble_eq_true rfl) (rec_all _)) rfl ?_))
        all_goals (first | (refine TE_s rfl rfl rfl rfl rfl ?_) | (refine TE_gq rfl rfl rfl rfl (RD.loadA (i := 0) Tryd.isAgg30 Tryd.sizeOf30 rfl rfl (Nat.le_of_ble_eq_true rfl) (rec_all _)) rfl ?_))
        all_goals (first | (refine TE_s rfl rfl rfl rfl rfl ?_) | ((refine TE_call rfl rfl ⟨_, rfl, rfl⟩ Tryd.call11 rfl rfl rfl (fun w hs' => c_outdoes b b w hb) ?_; rintro v38 H6 ⟨rfl, rfl⟩ -; rw [outdoes_self hokb])))
        all_goals (first | (refine TE_q rfl rfl (RD.pickT rfl rfl) rfl ?_) | (refine TE_q rfl rfl (RD.pickF rfl rfl) rfl ?_))
        all_goals refine TE_q rfl rfl (RD.move rfl) rfl ?_
        all_goals (first | refine TE_isT ?_ | refine TE_isF ?_ | refine TE_dec (fun h408 => ?_) (fun h408 => ?_) | refine TE_ndec (fun h408 => ?_) (fun h408 => ?_) | refine TE_bool (fun h408 => ?_) (fun h408 => ?_))
        all_goals (first | (refine TE_s rfl rfl rfl rfl rfl ?_) | (refine TE_gq rfl rfl rfl rfl (RD.loadA (i := 1) Tryd.isAgg30 Tryd.sizeOf30 rfl rfl (Nat.le_of_ble_eq_true rfl) (rec_all _)) rfl ?_))
        all_goals (first | (refine TE_s rfl rfl rfl rfl rfl ?_) | (refine TE_gq rfl rfl rfl rfl (RD.loadA (i := 0) Tryd.isAgg30 Tryd.sizeOf30 rfl rfl (Nat.le_of_ble_eq_true rfl) (rec_all _)) rfl ?_))
        all_goals (first | (refine TE_s rfl rfl rfl rfl rfl ?_) | ((refine TE_call rfl rfl ⟨_, rfl, rfl⟩ Tryd.call11 rfl rfl rfl (fun w hs' => c_outdoes a b w ha) ?_; rintro v43 H11 ⟨rfl, rfl⟩ -)))
        all_goals (first | (refine TE_s rfl rfl rfl rfl rfl ?_) | (refine TE_gq rfl rfl rfl rfl (RD.move rfl) rfl ?_))
        all_goals (first | refine TE_isT ?_ | refine TE_isF ?_ | refine TE_dec (fun h412 => ?_) (fun h412 => ?_) | refine TE_ndec (fun h412 => ?_) (fun h412 => ?_) | refine TE_bool (fun h412 => ?_) (fun h412 => ?_) | skip)
        all_goals (first | (refine TE_s rfl rfl rfl rfl rfl ?_) | (refine TE_su rfl rfl rfl rfl ?_) | (refine TE_gq rfl rfl rfl rfl (RD.loadA (i := 1) Tryd.isAgg30 Tryd.sizeOf30 rfl rfl (Nat.le_of_ble_eq_true rfl) (rec_all _)) rfl ?_))
        all_goals (first | (refine TE_s rfl rfl rfl rfl rfl ?_) | (refine TE_su rfl rfl rfl rfl ?_) | (refine TE_gq rfl rfl rfl rfl (RD.loadA (i := 0) Tryd.isAgg30 Tryd.sizeOf30 rfl rfl (Nat.le_of_ble_eq_true rfl) (rec_all _)) rfl ?_))
        all_goals (first | (refine TE_s rfl rfl rfl rfl rfl ?_) | (refine TE_su rfl rfl rfl rfl ?_) | ((refine TE_call rfl rfl ⟨_, rfl, rfl⟩ Tryd.call12 rfl rfl rfl (fun w hs' => c_apart a b w ha hb) ?_; rintro v47 H15 ⟨rfl, rfl⟩ -; rw [(outdoes_apart h412).1])))
        all_goals (first | (refine TE_s rfl rfl rfl rfl rfl ?_) | (refine TE_su rfl rfl rfl rfl ?_) | (refine TE_gq rfl rfl rfl rfl (RD.move rfl) rfl ?_))
        all_goals (first | refine TE_isT ?_ | refine TE_isF ?_ | refine TE_dec (fun h416 => ?_) (fun h416 => ?_) | refine TE_ndec (fun h416 => ?_) (fun h416 => ?_) | refine TE_bool (fun h416 => ?_) (fun h416 => ?_) | skip)
        all_goals (first | (refine TE_s rfl rfl rfl rfl rfl ?_) | (refine TE_su rfl rfl rfl rfl ?_) | (refine TE_gq rfl rfl rfl rfl (RD.fieldAddr (o := 18) Tryd.runUnderlying30 rfl rfl Tryd.sizeOf9 rfl) rfl ?_))
        all_goals (first | (refine TE_s rfl rfl rfl rfl rfl ?_) | (refine TE_su rfl rfl rfl rfl ?_) | (refine TE_gq rfl rfl rfl rfl (RD.load (i := 1) Tryd.isAgg9 rfl rfl rfl) rfl ?_))
        all_goals (first | (refine TE_s rfl rfl rfl rfl rfl ?_) | (refine TE_su rfl rfl rfl rfl ?_) | (refine TE_gq rfl rfl rfl rfl (RD.fieldAddr (o := 18) Tryd.runUnderlying30 rfl rfl Tryd.sizeOf9 rfl) rfl ?_))
        all_goals (first | (refine TE_s rfl rfl rfl rfl rfl ?_) | (refine TE_su rfl rfl rfl rfl ?_) | (refine TE_gq rfl rfl rfl rfl (RD.load (i := 0) Tryd.isAgg9 rfl rfl rfl) rfl ?_))
        all_goals (first | (refine TE_s rfl rfl rfl rfl rfl ?_) | (refine TE_su rfl rfl rfl rfl ?_) | (refine TE_gq rfl rfl rfl rfl (RD.neq_string rfl rfl) rfl ?_))
        all_goals (try rw [decide_eq_true (outdoes_apart h412).2])
        all_goals (first | (refine TE_s rfl rfl rfl rfl rfl ?_) | (refine TE_su rfl rfl rfl rfl ?_) | (refine TE_gq rfl rfl rfl rfl (RD.pickT rfl rfl) rfl ?_) | (refine TE_gq rfl rfl rfl rfl (RD.pickF rfl rfl) rfl ?_))
        all_goals (first | (refine TE_s rfl rfl rfl rfl rfl ?_) | (refine TE_gq rfl rfl rfl rfl (RD.pickT rfl rfl) rfl ?_) | (refine TE_gq rfl rfl rfl rfl (RD.pickF rfl rfl) rfl ?_))
        all_goals (first | (refine TE_q rfl rfl (RD.pickT rfl rfl) rfl ?_) | (refine TE_q rfl rfl (RD.pickF rfl rfl) rfl ?_))
        all_goals refine TE_q rfl rfl (RD.move rfl) rfl ?_
        all_goals (first | refine TE_isT ?_ | refine TE_isF ?_ | refine TE_dec (fun h425 => ?_) (fun h425 => ?_) | refine TE_ndec (fun h425 => ?_) (fun h425 => ?_) | refine TE_bool (fun h425 => ?_) (fun h425 => ?_))
        all_goals (first | (refine TE_s rfl rfl rfl rfl rfl ?_) | (refine TE_gq rfl rfl rfl rfl (RD.loadA (i := 1) Tryd.isAgg30 Tryd.sizeOf30 rfl rfl (Nat.le_of_ble_eq_true rfl) (rec_all _)) rfl ?_))
        all_goals (first | (refine TE_s rfl rfl rfl rfl rfl ?_) | (refine TE_gq rfl rfl rfl rfl (RD.loadA (i := 0) Tryd.isAgg30 Tryd.sizeOf30 rfl rfl (Nat.le_of_ble_eq_true rfl) (rec_all _)) rfl ?_))
        all_goals (first | (refine TE_s rfl rfl rfl rfl rfl ?_) | ((refine TE_call rfl rfl ⟨_, rfl, rfl⟩ Tryd.call12 rfl rfl rfl (fun w hs' => c_apart a b w ha hb) ?_; rintro v60 H28 ⟨rfl, rfl⟩ -)))
        all_goals (first | (refine TE_s rfl rfl rfl rfl rfl ?_) | (refine TE_gq rfl rfl rfl rfl (RD.loadA (i := 0) Tryd.isAgg30 Tryd.sizeOf30 rfl rfl (Nat.le_of_ble_eq_true rfl) (rec_all _)) rfl ?_))
        all_goals (first | (refine TE_s rfl rfl rfl rfl rfl ?_) | (refine TE_gq rfl rfl rfl rfl (RD.loadA (i := 1) Tryd.isAgg30 Tryd.sizeOf30 rfl rfl (Nat.le_of_ble_eq_true rfl) (rec_all _)) rfl ?_))
        all_goals (first | (refine TE_s rfl rfl rfl rfl rfl ?_) | ((refine TE_call rfl rfl ⟨_, rfl, rfl⟩ Tryd.call12 rfl rfl rfl (fun w hs' => c_apart b a w hb ha) ?_; rintro v63 H31 ⟨rfl, rfl⟩ -; rw [apart_symm b a])))
        all_goals (first | (refine TE_s rfl rfl rfl rfl rfl ?_) | (refine TE_gq rfl rfl rfl rfl (RD.neq_bool Tryd.runUnderlying4 rfl rfl) rfl ?_))
        all_goals (rw [show (!(apartB a b == apartB a b)) = false from by simp])
        all_goals (first | (refine TE_q rfl rfl (RD.pickT rfl rfl) rfl ?_) | (refine TE_q rfl rfl (RD.pickF rfl rfl) rfl ?_))
        all_goals refine TE_nil ?_
        all_goals first
          | (
              refine pn_condT rfl ?_
              refine pn_seq ?_
              refine pn_plain [] rfl ?_
              refine TE_q rfl rfl (RD.assign rfl) rfl ?_
              refine TE_nil0 ?_
              refine pn_ret ?_
              exact pn_done rfl rfl ⟨rfl, rfl⟩ (List.nil_sublist _) (by simp))
          | (
              refine pn_condF rfl ?_
              refine pn_skip ?_
              refine pn_seq ?_
              refine pn_seq ?_
              refine pn_plain [] rfl ?_
              refine TE_q rfl rfl (RD.fieldAddr (o := 0) Tryd.runUnderlying30 rfl rfl Tryd.sizeOf23 rfl) rfl ?_
              refine TE_q rfl rfl (RD.fieldAddr (o := 0) Tryd.runUnderlying23 rfl rfl Tryd.sizeOf3 rfl) rfl ?_
              refine TE_l rfl rfl trivial rfl (RD.load (i := 1) Tryd.isAgg3 rfl rfl rfl) rfl ?_
              refine TE_q rfl rfl (RD.fieldAddr (o := 0) Tryd.runUnderlying30 rfl rfl Tryd.sizeOf23 rfl) rfl ?_
              refine TE_q rfl rfl (RD.fieldAddr (o := 0) Tryd.runUnderlying23 rfl rfl Tryd.sizeOf3 rfl) rfl ?_
              refine TE_l rfl rfl trivial rfl (RD.load (i := 0) Tryd.isAgg3 rfl rfl rfl) rfl ?_
              refine TE_q rfl rfl (RD.neq rfl rfl) rfl ?_
              refine TE_nil0 ?_
              first | refine pn_condD rfl (fun hc2 => ?_) (fun hc2 => ?_) | refine pn_condN rfl (fun hc2 => ?_) (fun hc2 => ?_) | refine pn_cond rfl (fun hc2 => ?_) (fun hc2 => ?_)
              · refine pn_seq ?_
                refine pn_plain [] rfl ?_
                refine TE_q rfl rfl (RD.move rfl) rfl ?_
                refine TE_q rfl rfl (RD.assign rfl) rfl ?_
                refine TE_nil0 ?_
                refine pn_ret ?_
                exact pn_done rfl rfl ⟨rfl, rfl⟩ (List.nil_sublist _) (by simp)
              · refine pn_skip ?_
                refine pn_seq ?_
                refine pn_draw [2, 3, 7, 10, 15, 16] [] [0, 1, 2] rfl (by kernel_rfl) (by kernel_rfl) rfl rfl ?_
                refine TE_q rfl rfl (RD.move rfl) rfl ?_
                have hsame : a.s = b.s := by simpa using hc2
                refine TE_q rfl rfl (RD.move rfl) rfl ?_
                (first | refine TE_isT ?_ | refine TE_isF ?_ | refine TE_dec (fun h801 => ?_) (fun h801 => ?_) | refine TE_ndec (fun h801 => ?_) (fun h801 => ?_) | refine TE_bool (fun h801 => ?_) (fun h801 => ?_))
                all_goals (first | (refine TE_s rfl rfl rfl rfl rfl ?_) | (refine TE_gq rfl rfl rfl rfl (RD.loadA (i := 1) Tryd.isAgg30 Tryd.sizeOf30 rfl rfl (Nat.le_of_ble_eq_true rfl) (rec_all _)) rfl ?_))
                all_goals (first | (refine TE_s rfl rfl rfl rfl rfl ?_) | (refine TE_gq rfl rfl rfl rfl (RD.loadA (i := 0) Tryd.isAgg30 Tryd.sizeOf30 rfl rfl (Nat.le_of_ble_eq_true rfl) (rec_all _)) rfl ?_))
                all_goals (first | (refine TE_s rfl rfl rfl rfl rfl ?_) | ((refine TE_call rfl rfl ⟨_, rfl, rfl⟩ Tryd.call10 rfl rfl rfl (fun w hs' => c_ahead a b w hb) ?_; rintro v78 H4 ⟨rfl, rfl⟩ -; rw [ahead_same hoka hokb hsame])))
                all_goals (first | (refine TE_s rfl rfl rfl rfl rfl ?_) | (refine TE_gq rfl rfl rfl rfl (RD.fieldAddr (o := 0) Tryd.runUnderlying30 rfl rfl Tryd.sizeOf23 rfl) rfl ?_))
                all_goals (first | (refine TE_s rfl rfl rfl rfl rfl ?_) | (refine TE_gq rfl rfl rfl rfl (RD.fieldAddr (o := 1) Tryd.runUnderlying23 rfl rfl Tryd.sizeOf3 rfl) rfl ?_))
                all_goals (first | (refine TE_s rfl rfl rfl rfl rfl ?_) | (refine TE_gq rfl rfl rfl rfl (RD.load (i := 1) Tryd.isAgg3 rfl rfl rfl) rfl ?_))
                all_goals (first | (refine TE_s rfl rfl rfl rfl rfl ?_) | (refine TE_gq rfl rfl rfl rfl (RD.fieldAddr (o := 0) Tryd.runUnderlying30 rfl rfl Tryd.sizeOf23 rfl) rfl ?_))
                all_goals (first | (refine TE_s rfl rfl rfl rfl rfl ?_) | (refine TE_gq rfl rfl rfl rfl (RD.fieldAddr (o := 1) Tryd.runUnderlying23 rfl rfl Tryd.sizeOf3 rfl) rfl ?_))
                all_goals (first | (refine TE_s rfl rfl rfl rfl rfl ?_) | (refine TE_gq rfl rfl rfl rfl (RD.load (i := 0) Tryd.isAgg3 rfl rfl rfl) rfl ?_))
                all_goals (first | (refine TE_s rfl rfl rfl rfl rfl ?_) | (refine TE_gq rfl rfl rfl rfl (RD.lss rfl rfl) rfl ?_))
                all_goals (first | (refine TE_s rfl rfl rfl rfl rfl ?_) | (refine TE_gq rfl rfl rfl rfl (RD.eql_bool Tryd.runUnderlying4 rfl rfl) rfl ?_))
                all_goals (rw [show (decide (a.c < b.c) == decide (a.c < b.c)) = true from by simp])
                all_goals (first | (refine TE_q rfl rfl (RD.pickT rfl rfl) rfl ?_) | (refine TE_q rfl rfl (RD.pickF rfl rfl) rfl ?_))
                all_goals refine TE_q rfl rfl (RD.move rfl) rfl ?_
                all_goals (first | refine TE_isT ?_ | refine TE_isF ?_ | refine TE_dec (fun h814 => ?_) (fun h814 => ?_) | refine TE_ndec (fun h814 => ?_) (fun h814 => ?_) | refine TE_bool (fun h814 => ?_) (fun h814 => ?_))
                all_goals (first | (refine TE_s rfl rfl rfl rfl rfl ?_) | (refine TE_gq rfl rfl rfl rfl (RD.loadA (i := 1) Tryd.isAgg30 Tryd.sizeOf30 rfl rfl (Nat.le_of_ble_eq_true rfl) (rec_all _)) rfl ?_))
                all_goals (first | (refine TE_s rfl rfl rfl rfl rfl ?_) | (refine TE_gq rfl rfl rfl rfl (RD.loadA (i := 0) Tryd.isAgg30 Tryd.sizeOf30 rfl rfl (Nat.le_of_ble_eq_true rfl) (rec_all _)) rfl ?_))
                all_goals (first | (refine TE_s rfl rfl rfl rfl rfl ?_) | ((refine TE_call rfl rfl ⟨_, rfl, rfl⟩ Tryd.call12 rfl rfl rfl (fun w hs' => c_apart a b w ha hb) ?_; rintro v91 H17 ⟨rfl, rfl⟩ -; rw [apart_same hoka hokb hsame])))
                all_goals (first | (refine TE_s rfl rfl rfl rfl rfl ?_) | (refine TE_gq rfl rfl rfl rfl (RD.not rfl) rfl ?_))
                all_goals (first | (refine TE_q rfl rfl (RD.pickT rfl rfl) rfl ?_) | (refine TE_q rfl rfl (RD.pickF rfl rfl) rfl ?_))
                all_goals refine TE_q rfl rfl (RD.assign rfl) rfl ?_
                all_goals refine TE_nil ?_
                all_goals refine pn_ret ?_
                all_goals (exact pn_done rfl rfl ⟨rfl, rfl⟩ (List.nil_sublist _) (by simp)))
          | (
              first | refine pn_condD rfl (fun hc1 => ?_) (fun hc1 => ?_) | refine pn_condN rfl (fun hc1 => ?_) (fun hc1 => ?_) | refine pn_cond rfl (fun hc1 => ?_) (fun hc1 => ?_)
              · refine pn_seq ?_
                refine pn_plain [] rfl ?_
                refine TE_q rfl rfl (RD.assign rfl) rfl ?_
                refine TE_nil0 ?_
                refine pn_ret ?_
                exact pn_done rfl rfl ⟨rfl, rfl⟩ (List.nil_sublist _) (by simp)
              · refine pn_skip ?_
                refine pn_seq ?_
                refine pn_seq ?_
                refine pn_plain [] rfl ?_
                refine TE_q rfl rfl (RD.fieldAddr (o := 0) Tryd.runUnderlying30 rfl rfl Tryd.sizeOf23 rfl) rfl ?_
                refine TE_q rfl rfl (RD.fieldAddr (o := 0) Tryd.runUnderlying23 rfl rfl Tryd.sizeOf3 rfl) rfl ?_
                refine TE_l rfl rfl trivial rfl (RD.load (i := 1) Tryd.isAgg3 rfl rfl rfl) rfl ?_
                refine TE_q rfl rfl (RD.fieldAddr (o := 0) Tryd.runUnderlying30 rfl rfl Tryd.sizeOf23 rfl) rfl ?_
                refine TE_q rfl rfl (RD.fieldAddr (o := 0) Tryd.runUnderlying23 rfl rfl Tryd.sizeOf3 rfl) rfl ?_
                refine TE_l rfl rfl trivial rfl (RD.load (i := 0) Tryd.isAgg3 rfl rfl rfl) rfl ?_
                refine TE_q rfl rfl (RD.neq rfl rfl) rfl ?_
                refine TE_nil0 ?_
                first | refine pn_condD rfl (fun hc2 => ?_) (fun hc2 => ?_) | refine pn_condN rfl (fun hc2 => ?_) (fun hc2 => ?_) | refine pn_cond rfl (fun hc2 => ?_) (fun hc2 => ?_)
                · refine pn_seq ?_
                  refine pn_plain [] rfl ?_
                  refine TE_q rfl rfl (RD.move rfl) rfl ?_
                  refine TE_q rfl rfl (RD.assign rfl) rfl ?_
                  refine TE_nil0 ?_
                  refine pn_ret ?_
                  exact pn_done rfl rfl ⟨rfl, rfl⟩ (List.nil_sublist _) (by simp)
                · refine pn_skip ?_
                  refine pn_seq ?_
                  refine pn_draw [2, 3, 7, 10, 15, 16] [] [0, 1, 2] rfl (by kernel_rfl) (by kernel_rfl) rfl rfl ?_
                  refine TE_q rfl rfl (RD.move rfl) rfl ?_
                  have hsame : a.s = b.s := by simpa using hc2
                  refine TE_q rfl rfl (RD.move rfl) rfl ?_
                  (first | refine TE_isT ?_ | refine TE_isF ?_ | refine TE_dec (fun h801 => ?_) (fun h801 => ?_) | refine TE_ndec (fun h801 => ?_) (fun h801 => ?_) | refine TE_bool (fun h801 => ?_) (fun h801 => ?_))
                  all_goals (first | (refine TE_s rfl rfl rfl rfl rfl ?_) | (refine TE_gq rfl rfl rfl rfl (RD.loadA (i := 1) Tryd.isAgg30 Tryd.sizeOf30 rfl rfl (Nat.le_of_ble_eq_true rfl) (rec_all _)) rfl ?_))
                  all_goals (first | (refine TE_s rfl rfl rfl rfl rfl ?_) | (refine TE_gq rfl rfl rfl rfl (RD.loadA (i := 0) Tryd.isAgg30 Tryd.sizeOf30 rfl rfl (Nat.le_of_ble_eq_true rfl) (rec_all _)) rfl ?_))
                  all_goals (first | (refine TE_s rfl rfl rfl rfl rfl ?_) | ((refine TE_call rfl rfl ⟨_, rfl, rfl⟩ Tryd.call10 rfl rfl rfl (fun w hs' => c_ahead a b w hb) ?_; rintro v78 H4 ⟨rfl, rfl⟩ -; rw [ahead_same hoka hokb hsame])))
                  all_goals (first | (refine TE_s rfl rfl rfl rfl rfl ?_) | (refine TE_gq rfl rfl rfl rfl (RD.fieldAddr (o := 0) Tryd.runUnderlying30 rfl rfl Tryd.sizeOf23 rfl) rfl ?_))
                  all_goals (first | (refine TE_s rfl rfl rfl rfl rfl ?_) | (refine TE_gq rfl rfl rfl rfl (RD.fieldAddr (o := 1) Tryd.runUnderlying23 rfl rfl Tryd.sizeOf3 rfl) rfl ?_))
                  all_goals (first | (refine TE_s rfl rfl rfl rfl rfl ?_) | (refine TE_gq rfl rfl rfl rfl (RD.load (i := 1) Tryd.isAgg3 rfl rfl rfl) rfl ?_))
                  all_goals (first | (refine TE_s rfl rfl rfl rfl rfl ?_) | (refine TE_gq rfl rfl rfl rfl (RD.fieldAddr (o := 0) Tryd.runUnderlying30 rfl rfl Tryd.sizeOf23 rfl) rfl ?_))
                  all_goals (first | (refine TE_s rfl rfl rfl rfl rfl ?_) | (refine TE_gq rfl rfl rfl rfl (RD.fieldAddr (o := 1) Tryd.runUnderlying23 rfl rfl Tryd.sizeOf3 rfl) rfl ?_))
                  all_goals (first | (refine TE_s rfl rfl rfl rfl rfl ?_) | (refine TE_gq rfl rfl rfl rfl (RD.load (i := 0) Tryd.isAgg3 rfl rfl rfl) rfl ?_))
                  all_goals (first | (refine TE_s rfl rfl rfl rfl rfl ?_) | (refine TE_gq rfl rfl rfl rfl (RD.lss rfl rfl) rfl ?_))
                  all_goals (first | (refine TE_s rfl rfl rfl rfl rfl ?_) | (refine TE_gq rfl rfl rfl rfl (RD.eql_bool Tryd.runUnderlying4 rfl rfl) rfl ?_))
                  all_goals (rw [show (decide (a.c < b.c) == decide (a.c < b.c)) = true from by simp])
                  all_goals (first | (refine TE_q rfl rfl (RD.pickT rfl rfl) rfl ?_) | (refine TE_q rfl rfl (RD.pickF rfl rfl) rfl ?_))
                  all_goals refine TE_q rfl rfl (RD.move rfl) rfl ?_
                  all_goals (first | refine TE_isT ?_ | refine TE_isF ?_ | refine TE_dec (fun h814 => ?_) (fun h814 => ?_) | refine TE_ndec (fun h814 => ?_) (fun h814 => ?_) | refine TE_bool (fun h814 => ?_) (fun h814 => ?_))
                  all_goals (first | (refine TE_s rfl rfl rfl rfl rfl ?_) | (refine TE_gq rfl rfl rfl rfl (RD.loadA (i := 1) Tryd.isAgg30 Tryd.sizeOf30 rfl rfl (Nat.le_of_ble_eq_true rfl) (rec_all _)) rfl ?_))
                  all_goals (first | (refine TE_s rfl rfl rfl rfl rfl ?_) | (refine TE_gq rfl rfl rfl rfl (RD.loadA (i := 0) Tryd.isAgg30 Tryd.sizeOf30 rfl rfl (Nat.le_of_ble_eq_true rfl) (rec_all _)) rfl ?_))
                  all_goals (first | (refine TE_s rfl rfl rfl rfl rfl ?_) | ((refine TE_call rfl rfl ⟨_, rfl, rfl⟩ Tryd.call12 rfl rfl rfl (fun w hs' => c_apart a b w ha hb) ?_; rintro v91 H17 ⟨rfl, rfl⟩ -; rw [apart_same hoka hokb hsame])))
                  all_goals (first | (refine TE_s rfl rfl rfl rfl rfl ?_) | (refine TE_gq rfl rfl rfl rfl (RD.not rfl) rfl ?_))
                  all_goals (first | (refine TE_q rfl rfl (RD.pickT rfl rfl) rfl ?_) | (refine TE_q rfl rfl (RD.pickF rfl rfl) rfl ?_))
                  all_goals refine TE_q rfl rfl (RD.assign rfl) rfl ?_
                  all_goals refine TE_nil ?_
                  all_goals refine pn_ret ?_
                  all_goals (exact pn_done rfl rfl ⟨rfl, rfl⟩ (List.nil_sublist _) (by simp))))
    | (
        first | refine pn_condD rfl (fun hc0 => ?_) (fun hc0 => ?_) | refine pn_condN rfl (fun hc0 => ?_) (fun hc0 => ?_) | refine pn_cond rfl (fun hc0 => ?_) (fun hc0 => ?_)
        · refine pn_seq ?_
          refine pn_plain [] rfl ?_
          refine TE_q rfl rfl (RD.move rfl) rfl ?_
          refine TE_q rfl rfl (RD.assign rfl) rfl ?_
          refine TE_nil0 ?_
          refine pn_ret ?_
          exact pn_done rfl rfl ⟨rfl, rfl⟩ (List.nil_sublist _) (by simp)
        · refine pn_skip ?_
          refine pn_seq ?_
          refine pn_seq ?_
          refine pn_draw [0, 1, 4, 5, 9, 10, 13, 14, 18, 20, 26, 27, 29, 30] [] [0, 1, 2] rfl (by kernel_rfl) (by kernel_rfl) rfl rfl ?_
          refine TE_q rfl rfl (RD.loadA (i := 1) Tryd.isAgg30 Tryd.sizeOf30 rfl rfl (Nat.le_of_ble_eq_true rfl) (rec_all _)) rfl ?_
          have hoka := err0 h215; have hokb := err0 h220
          refine TE_q rfl rfl (RD.loadA (i := 1) Tryd.isAgg30 Tryd.sizeOf30 rfl rfl (Nat.le_of_ble_eq_true rfl) (rec_all _)) rfl ?_
          refine TE_call rfl rfl trivial Tryd.call10 rfl rfl rfl (fun w hs' => c_ahead a a w ha) ?_
          rintro v34 H2 ⟨rfl, rfl⟩ -; rw [ahead_self hoka]
          refine TE_q rfl rfl (RD.move rfl) rfl ?_
          (first | refine TE_isT ?_ | refine TE_isF ?_ | refine TE_dec (fun h403 => ?_) (fun h403 => ?_) | refine TE_ndec (fun h403 => ?_) (fun h403 => ?_) | refine TE_bool (fun h403 => ?_) (fun h403 => ?_))
          all_goals (first | (refine TE_s rfl rfl rfl rfl rfl ?_) | (refine TE_gq rfl rfl rfl rfl (RD.loadA (i := 0) Tryd.isAgg30 Tryd.sizeOf30 rfl rfl (Nat.le_of_ble_eq_true rfl) (rec_all _)) rfl ?_))
          all_goals (first | (refine TE_s rfl rfl rfl rfl rfl ?_) | (refine TE_gq rfl rfl rfl rfl (RD.loadA (i := 0) Tryd.isAgg30 Tryd.sizeOf30 rfl rfl (Nat.le_of_ble_eq_true rfl) (rec_all _)) rfl ?_))
          all_goals (first | (refine TE_s rfl rfl rfl rfl rfl ?_) | ((refine TE_call rfl rfl ⟨_, rfl, rfl⟩ Tryd.call11 rfl rfl rfl (fun w hs' => c_outdoes b b w hb) ?_; rintro v38 H6 ⟨rfl, rfl⟩ -; rw [outdoes_self hokb])))
          all_goals (first | (refine TE_q rfl rfl (RD.pickT rfl rfl) rfl ?_) | (refine TE_q rfl rfl (RD.pickF rfl rfl) rfl ?_))
          all_goals refine TE_q rfl rfl (RD.move rfl) rfl ?_
          all_goals (first | refine TE_isT ?_ | refine TE_isF ?_ | refine TE_dec (fun h408 => ?_) (fun h408 => ?_) | refine TE_ndec (fun h408 => ?_) (fun h408 => ?_) | refine TE_bool (fun h408 => ?_) (fun h408 => ?_))
          all_goals (first | (refine TE_s rfl rfl rfl rfl rfl ?_) | (refine TE_gq rfl rfl rfl rfl (RD.loadA (i := 1) Tryd.isAgg30 Tryd.sizeOf30 rfl rfl (Nat.le_of_ble_eq_true rfl) (rec_all _)) rfl ?_))
          all_goals (first | (refine TE_s rfl rfl rfl rfl rfl ?_) | (refine TE_gq rfl rfl rfl rfl (RD.loadA (i := 0) Tryd.isAgg30 Tryd.sizeOf30 rfl rfl (Nat.le_of_ble_eq_true rfl) (rec_all _)) rfl ?_))
          all_goals (first | (refine TE_s rfl rfl rfl rfl rfl ?_) | ((refine TE_call rfl rfl ⟨_, rfl, rfl⟩ Tryd.call11 rfl rfl rfl (fun w hs' => c_outdoes a b w ha) ?_; rintro v43 H11 ⟨rfl, rfl⟩ -)))
          all_goals (first | (refine TE_s rfl rfl rfl rfl rfl ?_) | (refine TE_gq rfl rfl rfl rfl (RD.move rfl) rfl ?_))
          all_goals (first | refine TE_isT ?_ | refine TE_isF ?_ | refine TE_dec (fun h412 => ?_) (fun h412 => ?_) | refine TE_ndec (fun h412 => ?_) (fun h412 => ?_) | refine TE_bool (fun h412 => ?_) (fun h412 => ?_) | skip)
          all_goals (first | (refine TE_s rfl rfl rfl rfl rfl ?_) | (refine TE_su rfl rfl rfl rfl ?_) | (refine TE_gq rfl rfl rfl rfl (RD.loadA (i := 1) Tryd.isAgg30 Tryd.sizeOf30 rfl rfl (Nat.le_of_ble_eq_true rfl) (rec_all _)) rfl ?_))
          all_goals (first | (refine TE_s rfl rfl rfl rfl rfl ?_) | (refine TE_su rfl rfl rfl rfl ?_) | (refine TE_gq rfl rfl rfl rfl (RD.loadA (i := 0) Tryd.isAgg30 Tryd.sizeOf30 rfl rfl (Nat.le_of_ble_eq_true rfl) (rec_all _)) rfl ?_))
          all_goals (first | (refine TE_s rfl rfl rfl rfl rfl ?_) | (refine TE_su rfl rfl rfl rfl ?_) | ((refine TE_call rfl rfl ⟨_, rfl, rfl⟩ Tryd.call12 rfl rfl rfl (fun w hs' => c_apart a b w ha hb) ?_; rintro v47 H15 ⟨rfl, rfl⟩ -; rw [(outdoes_apart h412).1])))
          all_goals (first | (refine TE_s rfl rfl rfl rfl rfl ?_) | (refine TE_su rfl rfl rfl rfl ?_) | (refine TE_gq rfl rfl rfl rfl (RD.move rfl) rfl ?_))
          all_goals (first | refine TE_isT ?_ | refine TE_isF ?_ | refine TE_dec (fun h416 => ?_) (fun h416 => ?_) | refine TE_ndec (fun h416 => ?_) (fun h416 => ?_) | refine TE_bool (fun h416 => ?_) (fun h416 => ?_) | skip)
          all_goals (first | (refine TE_s rfl rfl rfl rfl rfl ?_) | (refine TE_su rfl rfl rfl rfl ?_) | (refine TE_gq rfl rfl rfl rfl (RD.fieldAddr (o := 18) Tryd.runUnderlying30 rfl rfl Tryd.sizeOf9 rfl) rfl ?_))
          all_goals (first | (refine TE_s rfl rfl rfl rfl rfl ?_) | (refine TE_su rfl rfl rfl rfl ?_) | (refine TE_gq rfl rfl rfl rfl (RD.load (i := 1) Tryd.isAgg9 rfl rfl rfl) rfl ?_))
          all_goals (first | (refine TE_s rfl rfl rfl rfl rfl ?_) | (refine TE_su rfl rfl rfl rfl ?_) | (refine TE_gq rfl rfl rfl rfl (RD.fieldAddr (o := 18) Tryd.runUnderlying30 rfl rfl Tryd.sizeOf9 rfl) rfl ?_))
          all_goals (first | (refine TE_s rfl rfl rfl rfl rfl ?_) | (refine TE_su rfl rfl rfl rfl ?_) | (refine TE_gq rfl rfl rfl rfl (RD.load (i := 0) Tryd.isAgg9 rfl rfl rfl) rfl ?_))
          all_goals (first | (refine TE_s rfl rfl rfl rfl rfl ?_) | (refine TE_su rfl rfl rfl rfl ?_) | (refine TE_gq rfl rfl rfl rfl (RD.neq_string rfl rfl) rfl ?_))
          all_goals (try rw [decide_eq_true (outdoes_apart h412).2])
          all_goals (first | (refine TE_s rfl rfl rfl rfl rfl ?_) | (refine TE_su rfl rfl rfl rfl ?_) | (refine TE_gq rfl rfl rfl rfl (RD.pickT rfl rfl) rfl ?_) | (refine TE_gq rfl rfl rfl rfl (RD.pickF rfl rfl) rfl ?_))
          all_goals (first | (refine TE_s rfl rfl rfl rfl rfl ?_) | (refine TE_gq rfl rfl rfl rfl (RD.pickT rfl rfl) rfl ?_) | (refine TE_gq rfl rfl rfl rfl (RD.pickF rfl rfl) rfl ?_))
          all_goals (first | (refine TE_q rfl rfl (RD.pickT rfl rfl) rfl ?_) | (refine TE_q rfl rfl (RD.pickF rfl rfl) rfl ?_))
          all_goals refine TE_q rfl rfl (RD.move rfl) rfl ?_
          all_goals (first | refine TE_isT ?_ | refine TE_isF ?_ | refine TE_dec (fun h425 => ?_) (fun h425 => ?_) | refine TE_ndec (fun h425 => ?_) (fun h425 => ?_) | refine TE_bool (fun h425 => ?_) (fun h425 => ?_))
          all_goals (first | (refine TE_s rfl rfl rfl rfl rfl ?_) | (refine TE_gq rfl rfl rfl rfl (RD.loadA (i := 1) Tryd.isAgg30 Tryd.sizeOf30 rfl rfl (Nat.le_of_ble_eq_true rfl) (rec_all _)) rfl ?_))
          all_goals (first | (refine TE_s rfl rfl rfl rfl rfl ?_) | (refine TE_gq rfl rfl rfl rfl (RD.loadA (i := 0) Tryd.isAgg30 Tryd.sizeOf30 rfl rfl (Nat.le_of_ble_eq_true rfl) (rec_all _)) rfl ?_))
          all_goals (first | (refine TE_s rfl rfl rfl rfl rfl ?_) | ((refine TE_call rfl rfl ⟨_, rfl, rfl⟩ Tryd.call12 rfl rfl rfl (fun w hs' => c_apart a b w ha hb) ?_; rintro v60 H28 ⟨rfl, rfl⟩ -)))
          all_goals (first | (refine TE_s rfl rfl rfl rfl rfl ?_) | (refine TE_gq rfl rfl rfl rfl (RD.loadA (i := 0) Tryd.isAgg30 Tryd.sizeOf30 rfl rfl (Nat.le_of_ble_eq_true rfl) (rec_all _)) rfl ?_))
          all_goals (first | (refine TE_s rfl rfl rfl rfl rfl ?_) | (refine TE_gq rfl rfl rfl rfl (RD.loadA (i := 1) Tryd.isAgg30 Tryd.sizeOf30 rfl rfl (Nat.le_of_ble_eq_true rfl) (rec_all _)) rfl ?_))
          all_goals (first | (refine TE_s rfl rfl rfl rfl rfl ?_) | ((refine TE_call rfl rfl ⟨_, rfl, rfl⟩ Tryd.call12 rfl rfl rfl (fun w hs' => c_apart b a w hb ha) ?_; rintro v63 H31 ⟨rfl, rfl⟩ -; rw [apart_symm b a])))
          all_goals (first | (refine TE_s rfl rfl rfl rfl rfl ?_) | (refine TE_gq rfl rfl rfl rfl (RD.neq_bool Tryd.runUnderlying4 rfl rfl) rfl ?_))
          all_goals (rw [show (!(apartB a b == apartB a b)) = false from by simp])
          all_goals (first | (refine TE_q rfl rfl (RD.pickT rfl rfl) rfl ?_) | (refine TE_q rfl rfl (RD.pickF rfl rfl) rfl ?_))
          all_goals refine TE_nil ?_
          all_goals first
            | (
                refine pn_condT rfl ?_
                refine pn_seq ?_
                refine pn_plain [] rfl ?_
                refine TE_q rfl rfl (RD.assign rfl) rfl ?_
                refine TE_nil0 ?_
                refine pn_ret ?_
                exact pn_done rfl rfl ⟨rfl, rfl⟩ (List.nil_sublist _) (by simp))
            | (
                refine pn_condF rfl ?_
                refine pn_skip ?_
                refine pn_seq ?_
                refine pn_seq ?_
                refine pn_plain [] rfl ?_
                refine TE_q rfl rfl (RD.fieldAddr (o := 0) Tryd.runUnderlying30 rfl rfl Tryd.sizeOf23 rfl) rfl ?_
                refine TE_q rfl rfl (RD.fieldAddr (o := 0) Tryd.runUnderlying23 rfl rfl Tryd.sizeOf3 rfl) rfl ?_
                refine TE_l rfl rfl trivial rfl (RD.load (i := 1) Tryd.isAgg3 rfl rfl rfl) rfl ?_
                refine TE_q rfl rfl (RD.fieldAddr (o := 0) Tryd.runUnderlying30 rfl rfl Tryd.sizeOf23 rfl) rfl ?_
                refine TE_q rfl rfl (RD.fieldAddr (o := 0) Tryd.runUnderlying23 rfl rfl Tryd.sizeOf3 rfl) rfl ?_
                refine TE_l rfl rfl trivial rfl (RD.load (i := 0) Tryd.isAgg3 rfl rfl rfl) rfl ?_
                refine TE_q rfl rfl (RD.neq rfl rfl) rfl ?_
                refine TE_nil0 ?_
                first | refine pn_condD rfl (fun hc2 => ?_) (fun hc2 => ?_) | refine pn_condN rfl (fun hc2 => ?_) (fun hc2 => ?_) | refine pn_cond rfl (fun hc2 => ?_) (fun hc2 => ?_)
                · refine pn_seq ?_
                  refine pn_plain [] rfl ?_
                  refine TE_q rfl rfl (RD.move rfl) rfl ?_
                  refine TE_q rfl rfl (RD.assign rfl) rfl ?_
                  refine TE_nil0 ?_
                  refine pn_ret ?_
                  exact pn_done rfl rfl ⟨rfl, rfl⟩ (List.nil_sublist _) (by simp)
                · refine pn_skip ?_
                  refine pn_seq ?_
                  refine pn_draw [2, 3, 7, 10, 15, 16] [] [0, 1, 2] rfl (by kernel_rfl) (by kernel_rfl) rfl rfl ?_
                  refine TE_q rfl rfl (RD.move rfl) rfl ?_
                  have hsame : a.s = b.s := by simpa using hc2
                  refine TE_q rfl rfl (RD.move rfl) rfl ?_
                  (first | refine TE_isT ?_ | refine TE_isF ?_ | refine TE_dec (fun h801 => ?_) (fun h801 => ?_) | refine TE_ndec (fun h801 => ?_) (fun h801 => ?_) | refine TE_bool (fun h801 => ?_) (fun h801 => ?_))
                  all_goals (first | (refine TE_s rfl rfl rfl rfl rfl ?_) | (refine TE_gq rfl rfl rfl rfl (RD.loadA (i := 1) Tryd.isAgg30 Tryd.sizeOf30 rfl rfl (Nat.le_of_ble_eq_true rfl) (rec_all _)) rfl ?_))
                  all_goals (first | (refine TE_s rfl rfl rfl rfl rfl ?_) | (refine TE_gq rfl rfl rfl rfl (RD.loadA (i := 0) Tryd.isAgg30 Tryd.sizeOf30 rfl rfl (Nat.le_of_ble_eq_true rfl) (rec_all _)) rfl ?_))
                  all_goals (first | (refine TE_s rfl rfl rfl rfl rfl ?_) | ((refine TE_call rfl rfl ⟨_, rfl, rfl⟩ Tryd.call10 rfl rfl rfl (fun w hs' => c_ahead a b w hb) ?_; rintro v78 H4 ⟨rfl, rfl⟩ -; rw [ahead_same hoka hokb hsame])))
                  all_goals (first | (refine TE_s rfl rfl rfl rfl rfl ?_) | (refine TE_gq rfl rfl rfl rfl (RD.fieldAddr (o := 0) Tryd.runUnderlying30 rfl rfl Tryd.sizeOf23 rfl) rfl ?_))
                  all_goals (first | (refine TE_s rfl rfl rfl rfl rfl ?_) | (refine TE_gq rfl rfl rfl rfl (RD.fieldAddr (o := 1) Tryd.runUnderlying23 rfl rfl Tryd.sizeOf3 rfl) rfl ?_))
                  all_goals (first | (refine TE_s rfl rfl rfl rfl rfl ?_) | (refine TE_gq rfl rfl rfl rfl (RD.load (i := 1) Tryd.isAgg3 rfl rfl rfl) rfl ?_))
                  all_goals (first | (refine TE_s rfl rfl rfl rfl rfl ?_) | (refine TE_gq rfl rfl rfl rfl (RD.fieldAddr (o := 0) Tryd.runUnderlying30 rfl rfl Tryd.sizeOf23 rfl) rfl ?_))
                  all_goals (first | (refine TE_s rfl rfl rfl rfl rfl ?_) | (refine TE_gq rfl rfl rfl rfl (RD.fieldAddr (o := 1) Tryd.runUnderlying23 rfl rfl Tryd.sizeOf3 rfl) rfl ?_))
                  all_goals (first | (refine TE_s rfl rfl rfl rfl rfl ?_) | (refine TE_gq rfl rfl rfl rfl (RD.load (i := 0) Tryd.isAgg3 rfl rfl rfl) rfl ?_))
                  all_goals (first | (refine TE_s rfl rfl rfl rfl rfl ?_) | (refine TE_gq rfl rfl rfl rfl (RD.lss rfl rfl) rfl ?_))
                  all_goals (first | (refine TE_s rfl rfl rfl rfl rfl ?_) | (refine TE_gq rfl rfl rfl rfl (RD.eql_bool Tryd.runUnderlying4 rfl rfl) rfl ?_))
                  all_goals (rw [show (decide (a.c < b.c) == decide (a.c < b.c)) = true from by simp])
                  all_goals (first | (refine TE_q rfl rfl (RD.pickT rfl rfl) rfl ?_) | (refine TE_q rfl rfl (RD.pickF rfl rfl) rfl ?_))
                  all_goals refine TE_q rfl rfl (RD.move rfl) rfl ?_
                  all_goals (first | refine TE_isT ?_ | refine TE_isF ?_ | refine TE_dec (fun h814 => ?_) (fun h814 => ?_) | refine TE_ndec (fun h814 => ?_) (fun h814 => ?_) | refine TE_bool (fun h814 => ?_) (fun h814 => ?_))
                  all_goals (first | (refine TE_s rfl rfl rfl rfl rfl ?_) | (refine TE_gq rfl rfl rfl rfl (RD.loadA (i := 1) Tryd.isAgg30 Tryd.sizeOf30 rfl rfl (Nat.le_of_ble_eq_true rfl) (rec_all _)) rfl ?_))
                  all_goals (first | (refine TE_s rfl rfl rfl rfl rfl ?_) | (refine TE_gq rfl rfl rfl rfl (RD.loadA (i := 0) Tryd.isAgg30 Tryd.sizeOf30 rfl rfl (Nat.le_of_ble_eq_true rfl) (rec_all _)) rfl ?_))
                  all_goals (first | (refine TE_s rfl rfl rfl rfl rfl ?_) | ((refine TE_call rfl rfl ⟨_, rfl, rfl⟩ Tryd.call12 rfl rfl rfl (fun w hs' => c_apart a b w ha hb) ?_; rintro v91 H17 ⟨rfl, rfl⟩ -; rw [apart_same hoka hokb hsame])))
                  all_goals (first | (refine TE_s rfl rfl rfl rfl rfl ?_) | (refine TE_gq rfl rfl rfl rfl (RD.not rfl) rfl ?_))
                  all_goals (first | (refine TE_q rfl rfl (RD.pickT rfl rfl) rfl ?_) | (refine TE_q rfl rfl (RD.pickF rfl rfl) rfl ?_))
                  all_goals refine TE_q rfl rfl (RD.assign rfl) rfl ?_
                  all_goals refine TE_nil ?_
                  all_goals refine pn_ret ?_
                  all_goals (exact pn_done rfl rfl ⟨rfl, rfl⟩ (List.nil_sublist _) (by simp)))
            | (
                first | refine pn_condD rfl (fun hc1 => ?_) (fun hc1 => ?_) | refine pn_condN rfl (fun hc1 => ?_) (fun hc1 => ?_) | refine pn_cond rfl (fun hc1 => ?_) (fun hc1 => ?_)
                · refine pn_seq ?_
                  refine pn_plain [] rfl ?_
                  refine TE_q rfl rfl (RD.assign rfl) rfl ?_
                  refine TE_nil0 ?_
                  refine pn_ret ?_
                  exact pn_done rfl rfl ⟨rfl, rfl⟩ (List.nil_sublist _) (by simp)
                · refine pn_skip ?_
                  refine pn_seq ?_
                  refine pn_seq ?_
                  refine pn_plain [] rfl ?_
                  refine TE_q rfl rfl (RD.fieldAddr (o := 0) Tryd.runUnderlying30 rfl rfl Tryd.sizeOf23 rfl) rfl ?_
                  refine TE_q rfl rfl (RD.fieldAddr (o := 0) Tryd.runUnderlying23 rfl rfl Tryd.sizeOf3 rfl) rfl ?_
                  refine TE_l rfl rfl trivial rfl (RD.load (i := 1) Tryd.isAgg3 rfl rfl rfl) rfl ?_
                  refine TE_q rfl rfl (RD.fieldAddr (o := 0) Tryd.runUnderlying30 rfl rfl Tryd.sizeOf23 rfl) rfl ?_
                  refine TE_q rfl rfl (RD.fieldAddr (o := 0) Tryd.runUnderlying23 rfl rfl Tryd.sizeOf3 rfl) rfl ?_
                  refine TE_l rfl rfl trivial rfl (RD.load (i := 0) Tryd.isAgg3 rfl rfl rfl) rfl ?_
                  refine TE_q rfl rfl (RD.neq rfl rfl) rfl ?_
                  refine TE_nil0 ?_
                  first | refine pn_condD rfl (fun hc2 => ?_) (fun hc2 => ?_) | refine pn_condN rfl (fun hc2 => ?_) (fun hc2 => ?_) | refine pn_cond rfl (fun hc2 => ?_) (fun hc2 => ?_)
                  · refine pn_seq ?_
                    refine pn_plain [] rfl ?_
                    refine TE_q rfl rfl (RD.move rfl) rfl ?_
                    refine TE_q rfl rfl (RD.assign rfl) rfl ?_
                    refine TE_nil0 ?_
                    refine pn_ret ?_
                    exact pn_done rfl rfl ⟨rfl, rfl⟩ (List.nil_sublist _) (by simp)
                  · refine pn_skip ?_
                    refine pn_seq ?_
                    refine pn_draw [2, 3, 7, 10, 15, 16] [] [0, 1, 2] rfl (by kernel_rfl) (by kernel_rfl) rfl rfl ?_
                    refine TE_q rfl rfl (RD.move rfl) rfl ?_
                    have hsame : a.s = b.s := by simpa using hc2
                    refine TE_q rfl rfl (RD.move rfl) rfl ?_
                    (first | refine TE_isT ?_ | refine TE_isF ?_ | refine TE_dec (fun h801 => ?_) (fun h801 => ?_) | refine TE_ndec (fun h801 => ?_) (fun h801 => ?_) | refine TE_bool (fun h801 => ?_) (fun h801 => ?_))
                    all_goals (first | (refine TE_s rfl rfl rfl rfl rfl ?_) | (refine TE_gq rfl rfl rfl rfl (RD.loadA (i := 1) Tryd.isAgg30 Tryd.sizeOf30 rfl rfl (Nat.le_of_ble_eq_true rfl) (rec_all _)) rfl ?_))
                    all_goals (first | (refine TE_s rfl rfl rfl rfl rfl ?_) | (refine TE_gq rfl rfl rfl rfl (RD.loadA (i := 0) Tryd.isAgg30 Tryd.sizeOf30 rfl rfl (Nat.le_of_ble_eq_true rfl) (rec_all _)) rfl ?_))
                    all_goals (first | (refine TE_s rfl rfl rfl rfl rfl ?_) | ((refine TE_call rfl rfl ⟨_, rfl, rfl⟩ Tryd.call10 rfl rfl rfl (fun w hs' => c_ahead a b w hb) ?_; rintro v78 H4 ⟨rfl, rfl⟩ -; rw [ahead_same hoka hokb hsame])))
                    all_goals (first | (refine TE_s rfl rfl rfl rfl rfl ?_) | (refine TE_gq rfl rfl rfl rfl (RD.fieldAddr (o := 0) Tryd.runUnderlying30 rfl rfl Tryd.sizeOf23 rfl) rfl ?_))
                    all_goals (first | (refine TE_s rfl rfl rfl rfl rfl ?_) | (refine TE_gq rfl rfl rfl rfl (RD.fieldAddr (o := 1) Tryd.runUnderlying23 rfl rfl Tryd.sizeOf3 rfl) rfl ?_))
                    all_goals (first | (refine TE_s rfl rfl rfl rfl rfl ?_) | (refine TE_gq rfl rfl rfl rfl (RD.load (i := 1) Tryd.isAgg3 rfl rfl rfl) rfl ?_))
                    all_goals (first | (refine TE_s rfl rfl rfl rfl rfl ?_) | (refine TE_gq rfl rfl rfl rfl (RD.fieldAddr (o := 0) Tryd.runUnderlying30 rfl rfl Tryd.sizeOf23 rfl) rfl ?_))
                    all_goals (first | (refine TE_s rfl rfl rfl rfl rfl ?_) | (refine TE_gq rfl rfl rfl rfl (RD.fieldAddr (o := 1) Tryd.runUnderlying23 rfl rfl Tryd.sizeOf3 rfl) rfl ?_))
                    all_goals (first | (refine TE_s rfl rfl rfl rfl rfl ?_) | (refine TE_gq rfl rfl rfl rfl (RD.load (i := 0) Tryd.isAgg3 rfl rfl rfl) rfl ?_))
                    all_goals (first | (refine TE_s rfl rfl rfl rfl rfl ?_) | (refine TE_gq rfl rfl rfl rfl (RD.lss rfl rfl) rfl ?_))
                    all_goals (first | (refine TE_s rfl rfl rfl rfl rfl ?_) | (refine TE_gq rfl rfl rfl rfl (RD.eql_bool Tryd.runUnderlying4 rfl rfl) rfl ?_))
                    all_goals (rw [show (decide (a.c < b.c) == decide (a.c < b.c)) = true from by simp])
                    all_goals (first | (refine TE_q rfl rfl (RD.pickT rfl rfl) rfl ?_) | (refine TE_q rfl rfl (RD.pickF rfl rfl) rfl ?_))
                    all_goals refine TE_q rfl rfl (RD.move rfl) rfl ?_
                    all_goals (first | refine TE_isT ?_ | refine TE_isF ?_ | refine TE_dec (fun h814 => ?_) (fun h814 => ?_) | refine TE_ndec (fun h814 => ?_) (fun h814 => ?_) | refine TE_bool (fun h814 => ?_) (fun h814 => ?_))
                    all_goals (first | (refine TE_s rfl rfl rfl rfl rfl ?_) | (refine TE_gq rfl rfl rfl rfl (RD.loadA (i := 1) Tryd.isAgg30 Tryd.sizeOf30 rfl rfl (Nat.le_of_ble_eq_true rfl) (rec_all _)) rfl ?_))
                    all_goals (first | (refine TE_s rfl rfl rfl rfl rfl ?_) | (refine TE_gq rfl rfl rfl rfl (RD.loadA (i := 0) Tryd.isAgg30 Tryd.sizeOf30 rfl rfl (Nat.le_of_ble_eq_true rfl) (rec_all _)) rfl ?_))
                    all_goals (first | (refine TE_s rfl rfl rfl rfl rfl ?_) | ((refine TE_call rfl rfl ⟨_, rfl, rfl⟩ Tryd.call12 rfl rfl rfl (fun w hs' => c_apart a b w ha hb) ?_; rintro v91 H17 ⟨rfl, rfl⟩ -; rw [apart_same hoka hokb hsame])))
                    all_goals (first | (refine TE_s rfl rfl rfl rfl rfl ?_) | (refine TE_gq rfl rfl rfl rfl (RD.not rfl) rfl ?_))
                    all_goals (first | (refine TE_q rfl rfl (RD.pickT rfl rfl) rfl ?_) | (refine TE_q rfl rfl (RD.pickF rfl rfl) rfl ?_))
                    all_goals refine TE_q rfl rfl (RD.assign rfl) rfl ?_
                    all_goals refine TE_nil ?_
                    all_goals refine pn_ret ?_
                    all_goals (exact pn_done rfl rfl ⟨rfl, rfl⟩ (List.nil_sublist _) (by simp))))

end Go.Proofs.YthagkkmbbncclaaDoor
