import Derived.Test.YthagkkmbbncclaaDoorOrd
import Derived.Test.YthagkkmbbncclaaDoorEqr
import Derived.Test.YthagkkmbbncclaaDoorR12
namespace Go.Proofs.YthagkkmbbncclaaDoor
open Go Go.Mv
set_option maxRecDepth 8000
theorem c_r6Has (v : Nat → Int) (s c : Int) (w : World) (hv : VecOk v) : Calls Tryd.prog 57 #[vecV v, dotV s c] w (Ret w [] fun x H1 => x = .bool (vHas v s c) ∧ H1 = []) := by
  have hvs := hv s.toNat
  refine fn_enter (args := [_, _]) Tryd.func57 rfl Tryd.ntmps57 rfl (Hp.nil w) ?_
  refine pn_seq ?_
  refine pn_plain [] rfl ?_
  refine TE_box rfl rfl trivial rfl fun b2 hb2 => ?_
  refine TE_box rfl rfl trivial rfl fun b3 hb3 => ?_
  refine TE_q rfl rfl (RD.assign rfl) rfl ?_
  refine TE_nil0 ?_
  refine pn_seq ?_
  refine pn_draw [0, 5, 7, 9, 10] [] [0, 1] rfl (by kernel_rfl) (by kernel_rfl) rfl rfl ?_
  refine TE_q rfl rfl (RD.loadA (i := 0) Tryd.isAgg23 Tryd.sizeOf23 rfl rfl (Nat.le_of_ble_eq_true rfl) (dot_all _ _)) rfl ?_
  refine TE_call rfl rfl trivial Tryd.call47 rfl rfl rfl (fun w hs' => c_r5Check s c w) ?_
  rintro v6 H1 ⟨rfl, rfl⟩ -
  refine TE_q rfl rfl (RD.eql rfl rfl) rfl ?_
  refine TE_q rfl rfl (RD.move rfl) rfl ?_
  (first | refine TE_isT ?_ | refine TE_isF ?_ | refine TE_dec (fun h103 => ?_) (fun h103 => ?_) | refine TE_ndec (fun h103 => ?_) (fun h103 => ?_) | refine TE_bool (fun h103 => ?_) (fun h103 => ?_))
  all_goals (first | (refine TE_s rfl rfl rfl rfl rfl ?_) | (refine TE_gq rfl rfl rfl rfl (RD.fieldAddr (o := 1) Tryd.runUnderlying23 rfl rfl Tryd.sizeOf3 rfl) rfl ?_))
  all_goals (first | (refine TE_s rfl rfl rfl rfl rfl ?_) | (refine TE_gq rfl rfl rfl rfl (RD.load (i := 0) Tryd.isAgg3 rfl rfl rfl) rfl ?_))
  all_goals (first | (refine TE_s rfl rfl rfl rfl rfl ?_) | (refine TE_gq rfl rfl rfl rfl (RD.fieldAddr (o := 0) Tryd.runUnderlying23 rfl rfl Tryd.sizeOf3 rfl) rfl ?_))
  all_goals (first | (refine TE_s rfl rfl rfl rfl rfl ?_) | (refine TE_gq rfl rfl rfl rfl (RD.load (i := 0) Tryd.isAgg3 rfl rfl rfl) rfl ?_))
  all_goals (first | (refine TE_s rfl rfl rfl rfl rfl ?_) | (refine TE_gq rfl rfl rfl rfl (RD.indexAddrA Tryd.runUnderlying26 Tryd.sizeOf24 rfl rfl (by have := dotOk_iff.1 (err0 h103); omega) (by have := dotOk_iff.1 (err0 h103); omega)) rfl ?_))
  all_goals (first | (refine TE_s rfl rfl rfl rfl rfl ?_) | (refine TE_gq rfl rfl rfl rfl (RD.load (i := 1) Tryd.isAgg24 rfl rfl (vec_get (by have := dotOk_iff.1 (err0 h103); omega) (by have := dotOk_iff.1 (err0 h103); omega))) rfl ?_))
  all_goals (first | (refine TE_s rfl rfl rfl rfl rfl ?_) | (refine TE_gq rfl rfl rfl rfl (RD.convI Tryd.runUnderlying24 Tryd.runUnderlying3 rfl (by omega) (by omega)) rfl ?_))
  all_goals (first | (refine TE_s rfl rfl rfl rfl rfl ?_) | (refine TE_gq rfl rfl rfl rfl (RD.leq rfl rfl) rfl ?_))
  all_goals (first | (refine TE_q rfl rfl (RD.pickT rfl rfl) rfl ?_) | (refine TE_q rfl rfl (RD.pickF rfl rfl) rfl ?_))
  all_goals refine TE_q rfl rfl (RD.assign rfl) rfl ?_
  all_goals refine TE_nil ?_
  all_goals refine pn_ret ?_
  all_goals (first | exact pn_done rfl rfl ⟨by simp only [vHas, err0 h103]; rfl, rfl⟩ (List.nil_sublist _) (by simp) | exact pn_done rfl rfl ⟨by simp only [vHas, err1 h103]; rfl, rfl⟩ (List.nil_sublist _) (by simp))

theorem c_r12Ahead (a b : Rec) (w : World) (hb : RecOk b) : Calls Tryd.prog 24 #[recV a, recV b] w (Ret w [] fun v H1 => v = .bool (aheadB a b) ∧ H1 = []) := by
  refine fn_enter (args := [_, _]) Tryd.func24 rfl Tryd.ntmps24 rfl (Hp.nil w) ?_
  refine pn_seq ?_
  refine pn_plain [] rfl ?_
  refine TE_box rfl rfl trivial rfl fun b2 hb2 => ?_
  refine TE_box rfl rfl trivial rfl fun b3 hb3 => ?_
  refine TE_q rfl rfl (RD.assign rfl) rfl ?_
  refine TE_nil0 ?_
  refine pn_seq ?_
  refine pn_plain [] rfl ?_
  refine TE_q rfl rfl (RD.fieldAddr (o := 2) Tryd.runUnderlying30 rfl rfl Tryd.sizeOf26 rfl) rfl ?_
  refine TE_l rfl rfl trivial rfl (RD.loadA (i := 0) Tryd.isAgg26 Tryd.sizeOf26 rfl rfl (Nat.le_of_ble_eq_true rfl) (rec_ctx' _)) rfl ?_
  refine TE_q rfl rfl (RD.fieldAddr (o := 0) Tryd.runUnderlying30 rfl rfl Tryd.sizeOf23 rfl) rfl ?_
  refine TE_l rfl rfl trivial rfl (RD.loadA (i := 1) Tryd.isAgg23 Tryd.sizeOf23 rfl rfl (Nat.le_of_ble_eq_true rfl) (rec_dot _)) rfl ?_
  refine TE_call rfl rfl trivial Tryd.call57 rfl rfl rfl (fun w hs' => c_r6Has b.ctx a.s a.c w hb.ctx) ?_
  rintro v9 H4 ⟨rfl, rfl⟩ -
  refine TE_q rfl rfl (RD.assign rfl) rfl ?_
  refine TE_nil0 ?_
  refine pn_ret ?_
  exact pn_done rfl rfl ⟨rfl, rfl⟩ (List.nil_sublist _) (by simp)

theorem c_r12Apart (a b : Rec) (w : World) (ha : RecOk a) (hb : RecOk b) : Calls Tryd.prog 25 #[recV a, recV b] w (Ret w [] fun v H1 => v = .bool (apartB a b) ∧ H1 = []) := by
  refine fn_enter (args := [_, _]) Tryd.func25 rfl Tryd.ntmps25 rfl (Hp.nil w) ?_
  refine pn_seq ?_
  refine pn_plain [] rfl ?_
  refine TE_box rfl rfl trivial rfl fun b2 hb2 => ?_
  refine TE_box rfl rfl trivial rfl fun b3 hb3 => ?_
  refine TE_q rfl rfl (RD.assign rfl) rfl ?_
  refine TE_nil0 ?_
  refine pn_seq ?_
  refine pn_plain [] rfl ?_
  refine TE_l rfl rfl trivial rfl (RD.loadA (i := 1) Tryd.isAgg30 Tryd.sizeOf30 rfl rfl (Nat.le_of_ble_eq_true rfl) (rec_all _)) rfl ?_
  refine TE_l rfl rfl trivial rfl (RD.loadA (i := 0) Tryd.isAgg30 Tryd.sizeOf30 rfl rfl (Nat.le_of_ble_eq_true rfl) (rec_all _)) rfl ?_
  refine TE_call rfl rfl trivial Tryd.call24 rfl rfl rfl (fun w hs' => c_r12Ahead a b w hb) ?_
  rintro v9 H2 ⟨rfl, rfl⟩ -
  refine TE_q rfl rfl (RD.assign rfl) rfl ?_
  refine TE_nil0 ?_
  refine pn_seq ?_
  refine pn_plain [] rfl ?_
  refine TE_l rfl rfl trivial rfl (RD.loadA (i := 0) Tryd.isAgg30 Tryd.sizeOf30 rfl rfl (Nat.le_of_ble_eq_true rfl) (rec_all _)) rfl ?_
  refine TE_l rfl rfl trivial rfl (RD.loadA (i := 1) Tryd.isAgg30 Tryd.sizeOf30 rfl rfl (Nat.le_of_ble_eq_true rfl) (rec_all _)) rfl ?_
  refine TE_call rfl rfl trivial Tryd.call24 rfl rfl rfl (fun w hs' => c_r12Ahead b a w ha) ?_
  rintro v12 H2 ⟨rfl, rfl⟩ -
  refine TE_q rfl rfl (RD.assign rfl) rfl ?_
  refine TE_nil0 ?_
  refine pn_seq ?_
  refine pn_plain [] rfl ?_
  refine TE_q rfl rfl (RD.move rfl) rfl ?_
  refine TE_q rfl rfl (RD.not rfl) rfl ?_
  refine TE_q rfl rfl (RD.move rfl) rfl ?_
  (first | refine TE_isT ?_ | refine TE_isF ?_ | refine TE_dec (fun h302 => ?_) (fun h302 => ?_) | refine TE_ndec (fun h302 => ?_) (fun h302 => ?_) | refine TE_bool (fun h302 => ?_) (fun h302 => ?_))
  all_goals (first | (refine TE_s rfl rfl rfl rfl rfl ?_) | (refine TE_gq rfl rfl rfl rfl (RD.move rfl) rfl ?_))
  all_goals (first | (refine TE_s rfl rfl rfl rfl rfl ?_) | (refine TE_gq rfl rfl rfl rfl (RD.not rfl) rfl ?_))
  all_goals (first | (refine TE_q rfl rfl (RD.pickT rfl rfl) rfl ?_) | (refine TE_q rfl rfl (RD.pickF rfl rfl) rfl ?_))
  all_goals refine TE_q rfl rfl (RD.move rfl) rfl ?_
  all_goals (first | refine TE_isT ?_ | refine TE_isF ?_ | refine TE_dec (fun h306 => ?_) (fun h306 => ?_) | refine TE_ndec (fun h306 => ?_) (fun h306 => ?_) | refine TE_bool (fun h306 => ?_) (fun h306 => ?_))
  all_goals (first | (refine TE_s rfl rfl rfl rfl rfl ?_) | (refine TE_gq rfl rfl rfl rfl (RD.fieldAddr (o := 0) Tryd.runUnderlying30 rfl rfl Tryd.sizeOf23 rfl) rfl ?_))
  all_goals (first | (refine TE_s rfl rfl rfl rfl rfl ?_) | (refine TE_l rfl rfl ⟨_, rfl, rfl⟩ rfl (RD.loadA (i := 1) Tryd.isAgg23 Tryd.sizeOf23 rfl rfl (Nat.le_of_ble_eq_true rfl) (rec_dot _)) rfl ?_))
  all_goals (first | (refine TE_s rfl rfl rfl rfl rfl ?_) | (refine TE_gq rfl rfl rfl rfl (RD.fieldAddr (o := 0) Tryd.runUnderlying30 rfl rfl Tryd.sizeOf23 rfl) rfl ?_))
  all_goals (first | (refine TE_s rfl rfl rfl rfl rfl ?_) | (refine TE_l rfl rfl ⟨_, rfl, rfl⟩ rfl (RD.loadA (i := 0) Tryd.isAgg23 Tryd.sizeOf23 rfl rfl (Nat.le_of_ble_eq_true rfl) (rec_dot _)) rfl ?_))
  all_goals (first | (refine TE_s rfl rfl rfl rfl rfl ?_) | (refine TE_gq rfl rfl rfl rfl (RD.neq_agg Tryd.eqGuardType23 (eq_dot a.s a.c b.s b.c) rfl rfl) rfl ?_))
  all_goals (first | (refine TE_q rfl rfl (RD.pickT rfl rfl) rfl ?_) | (refine TE_q rfl rfl (RD.pickF rfl rfl) rfl ?_))
  all_goals refine TE_q rfl rfl (RD.assign rfl) rfl ?_
  all_goals refine TE_nil0 ?_
  all_goals refine pn_ret ?_
  all_goals (first | exact pn_done rfl rfl ⟨by simp_all [apartB, sameDot, tupV], rfl⟩ (List.nil_sublist _) (by simp))

theorem c_r12Outdoes (a b : Rec) (w : World) (ha : RecOk a) : Calls Tryd.prog 26 #[recV a, recV b] w (Ret w [] fun v H1 => v = .bool (outdoesB a b) ∧ H1 = []) := by
  refine fn_enter (args := [_, _]) Tryd.func26 rfl Tryd.ntmps26 rfl (Hp.nil w) ?_
  refine pn_seq ?_
  refine pn_plain [] rfl ?_
  refine TE_box rfl rfl trivial rfl fun b2 hb2 => ?_
  refine TE_box rfl rfl trivial rfl fun b3 hb3 => ?_
  refine TE_q rfl rfl (RD.assign rfl) rfl ?_
  refine TE_nil0 ?_
  refine pn_seq ?_
  refine pn_plain [] rfl ?_
  refine TE_l rfl rfl trivial rfl (RD.loadA (i := 0) Tryd.isAgg30 Tryd.sizeOf30 rfl rfl (Nat.le_of_ble_eq_true rfl) (rec_all _)) rfl ?_
  refine TE_l rfl rfl trivial rfl (RD.loadA (i := 1) Tryd.isAgg30 Tryd.sizeOf30 rfl rfl (Nat.le_of_ble_eq_true rfl) (rec_all _)) rfl ?_
  refine TE_call rfl rfl trivial Tryd.call24 rfl rfl rfl (fun w hs' => c_r12Ahead b a w ha) ?_
  rintro v8 H2 ⟨rfl, rfl⟩ -
  refine TE_q rfl rfl (RD.assign rfl) rfl ?_
  refine TE_nil0 ?_
  refine pn_seq ?_
  refine pn_plain [] rfl ?_
  refine TE_q rfl rfl (RD.move rfl) rfl ?_
  refine TE_q rfl rfl (RD.move rfl) rfl ?_
  (first | refine TE_isT ?_ | refine TE_isF ?_ | refine TE_dec (fun h201 => ?_) (fun h201 => ?_) | refine TE_ndec (fun h201 => ?_) (fun h201 => ?_) | refine TE_bool (fun h201 => ?_) (fun h201 => ?_))
  all_goals (first | (refine TE_s rfl rfl rfl rfl rfl ?_) | (refine TE_gq rfl rfl rfl rfl (RD.fieldAddr (o := 18) Tryd.runUnderlying30 rfl rfl Tryd.sizeOf9 rfl) rfl ?_))
  all_goals (first | (refine TE_s rfl rfl rfl rfl rfl ?_) | (refine TE_l rfl rfl ⟨_, rfl, rfl⟩ rfl (RD.load (i := 1) Tryd.isAgg9 rfl rfl rfl) rfl ?_))
  all_goals (first | (refine TE_s rfl rfl rfl rfl rfl ?_) | (refine TE_gq rfl rfl rfl rfl (RD.fieldAddr (o := 18) Tryd.runUnderlying30 rfl rfl Tryd.sizeOf9 rfl) rfl ?_))
  all_goals (first | (refine TE_s rfl rfl rfl rfl rfl ?_) | (refine TE_l rfl rfl ⟨_, rfl, rfl⟩ rfl (RD.load (i := 0) Tryd.isAgg9 rfl rfl rfl) rfl ?_))
  all_goals (first | (refine TE_s rfl rfl rfl rfl rfl ?_) | (refine TE_gq rfl rfl rfl rfl (RD.eql_string rfl rfl) rfl ?_))
  all_goals (first | (refine TE_q rfl rfl (RD.pickT rfl rfl) rfl ?_) | (refine TE_q rfl rfl (RD.pickF rfl rfl) rfl ?_))
  all_goals refine TE_q rfl rfl (RD.assign rfl) rfl ?_
  all_goals refine TE_nil0 ?_
  all_goals refine pn_ret ?_
  all_goals (first | exact pn_done rfl rfl ⟨by simp_all [outdoesB, tupV], rfl⟩ (List.nil_sublist _) (by simp))

theorem far_step {f : Nat → Int} (h : VecOk f) {s : Nat} (hs : s < 16) : Value.int .u64 (IntKind.u64.wrap (sumV f s + IntKind.u64.wrap (f s))) = .int .u64 (sumV f (s + 1)) := by
  have h1 := sumV_bd h s
  have h2 := h s
  have h3 : (s : Int) * 4294967295 ≤ 15 * 4294967295 := by omega
  rw [u64_wrap, u64_wrap, sumV, Int.emod_eq_of_lt (a := f s) (by omega) (by omega), Int.emod_eq_of_lt (by omega) (by omega)]

theorem c_r12Far (x : Rec) (w : World) (hx : RecOk x) : Calls Tryd.prog 81 #[recV x] w (Ret w [] fun v H1 => v = .int .u64 (farV x.ctx) ∧ H1 = []) := by
  refine fn_enter (args := [_]) Tryd.func81 rfl Tryd.ntmps81 rfl (Hp.nil w) ?_
  refine pn_seq ?_
  refine pn_plain [] rfl ?_
  refine TE_box rfl rfl trivial rfl fun b1 hb1 => ?_
  refine TE_q rfl rfl (RD.assign rfl) rfl ?_
  refine TE_nil0 ?_
  refine pn_seq ?_
  refine pn_plain [] rfl ?_
  refine TE_q rfl rfl (RD.assign rfl) rfl ?_
  refine TE_nil0 ?_
  refine pn_seq ?_
  refine pn_seq ?_
  refine pn_plain [] rfl ?_
  refine TE_q rfl rfl (RD.assign rfl) rfl ?_
  refine TE_nil0 ?_
  refine pn_block ?_
  refine pn_loop (σ := Nat) (fun s => [(4, .int .i64 (s : Int)), (3, .int .u64 (sumV x.ctx s)), (1, .pointer (some ⟨b1, 0, none⟩))]) (fun _ => [(b1, .cells (recV x).cells 30 (0, 0))]) (fun s => s ≤ 16) (fun s => 16 - s) 0 (by decide) ⟨rfl, rfl, rfl, trivial⟩ (List.Sublist.refl _) ?_
  intro s hs
  refine pn_seq ?_
  refine pn_seq ?_
  refine pn_plain [] rfl ?_
  refine TE_q rfl rfl (RD.move rfl) rfl ?_
  refine TE_q rfl rfl (RD.lss rfl rfl) rfl ?_
  refine TE_nil0 ?_
  first | refine pn_condD rfl (fun hc0 => ?_) (fun hc0 => ?_) | refine pn_condN rfl (fun hc0 => ?_) (fun hc0 => ?_) | refine pn_cond rfl (fun hc0 => ?_) (fun hc0 => ?_)
  · refine pn_skip ?_
    refine pn_seq ?_
    refine pn_block ?_
    refine pn_plain [5] rfl ?_
    refine TE_q rfl rfl (RD.move rfl) rfl ?_
    refine TE_q rfl rfl (RD.move rfl) rfl ?_
    refine TE_q rfl rfl (RD.fieldAddr (o := 2) Tryd.runUnderlying30 rfl rfl Tryd.sizeOf26 rfl) rfl ?_
    refine TE_q rfl rfl (RD.indexAddrA Tryd.runUnderlying26 Tryd.sizeOf24 rfl rfl (by omega) (by omega)) rfl ?_
    refine TE_l rfl rfl trivial rfl (RD.load (i := 0) Tryd.isAgg24 rfl rfl (rec_ctx_get (by omega) (by omega))) rfl ?_
    refine TE_q rfl rfl (RD.conv Tryd.runUnderlying24 Tryd.runUnderlying74 rfl) rfl ?_
    refine TE_q rfl rfl (RD.as (RD.add rfl rfl) (far_step hx.ctx (by omega))) rfl ?_
    refine TE_q rfl rfl (RD.assign rfl) rfl ?_
    refine TE_nil0 ?_
    refine pn_plain [] rfl ?_
    refine TE_q rfl rfl (RD.move rfl) rfl ?_
    refine TE_q rfl rfl (RD.addI rfl rfl (by omega) (by omega)) rfl ?_
    refine TE_q rfl rfl (RD.assign rfl) rfl ?_
    refine TE_nil0 ?_
    (exact pn_again (s + 1) (by omega) (by show 16 - (s + 1) < 16 - s; omega) ⟨rfl, rfl, rfl, trivial⟩ (List.Sublist.refl _))
  · refine pn_exit ?_
    refine pn_seq ?_
    refine pn_plain [] rfl ?_
    refine TE_q rfl rfl (RD.move rfl) rfl ?_
    refine TE_q rfl rfl (RD.assign rfl) rfl ?_
    refine TE_nil0 ?_
    refine pn_ret ?_
    obtain rfl : s = 16 := (by omega); exact pn_done rfl rfl ⟨rfl, rfl⟩ (List.nil_sublist _) (by simp)

theorem cmp05_lt {s c s' c' : Int} (h : s < s' ∨ (s = s' ∧ c < c')) : (if s < s' ∨ (s = s' ∧ c < c') then (-1 : Int) else if s = s' ∧ c = c' then 0 else 1) = -1 := if_pos h
def cmp05 (s c s' c' : Int) : Int := if s < s' ∨ (s = s' ∧ c < c') then -1 else if s = s' ∧ c = c' then 0 else 1
theorem cmp05_neg {s c s' c' : Int} : cmp05 s c s' c' < 0 ↔ s < s' ∨ (s = s' ∧ c < c') := by
  unfold cmp05; split
  · rename_i h; simp [h]
  · rename_i h; split <;> simp [h]

theorem c_r5Cmp (s c s' c' : Int) (w : World) : Calls Tryd.prog 82 #[dotV s c, dotV s' c'] w (Ret w [] fun v H1 => v = .int .i64 (cmp05 s c s' c') ∧ H1 = []) := by
  refine fn_enter (args := [_, _]) Tryd.func82 rfl Tryd.ntmps82 rfl (Hp.nil w) ?_
  refine pn_seq ?_
  refine pn_plain [] rfl ?_
  refine TE_box rfl rfl trivial rfl fun b2 hb2 => ?_
  refine TE_box rfl rfl trivial rfl fun b3 hb3 => ?_
  refine TE_q rfl rfl (RD.assign rfl) rfl ?_
  refine TE_nil0 ?_
  refine pn_seq ?_
  refine pn_seq ?_
  refine pn_plain [] rfl ?_
  refine TE_q rfl rfl (RD.fieldAddr (o := 0) Tryd.runUnderlying23 rfl rfl Tryd.sizeOf3 rfl) rfl ?_
  refine TE_l rfl rfl trivial rfl (RD.load (i := 1) Tryd.isAgg3 rfl rfl rfl) rfl ?_
  refine TE_q rfl rfl (RD.fieldAddr (o := 0) Tryd.runUnderlying23 rfl rfl Tryd.sizeOf3 rfl) rfl ?_
  refine TE_l rfl rfl trivial rfl (RD.load (i := 0) Tryd.isAgg3 rfl rfl rfl) rfl ?_
  refine TE_q rfl rfl (RD.lss rfl rfl) rfl ?_
  refine TE_q rfl rfl (RD.move rfl) rfl ?_
  (first | refine TE_isT ?_ | refine TE_isF ?_ | refine TE_dec (fun h105 => ?_) (fun h105 => ?_) | refine TE_ndec (fun h105 => ?_) (fun h105 => ?_) | refine TE_bool (fun h105 => ?_) (fun h105 => ?_))
  all_goals (first | (refine TE_s rfl rfl rfl rfl rfl ?_) | (refine TE_gq rfl rfl rfl rfl (RD.fieldAddr (o := 0) Tryd.runUnderlying23 rfl rfl Tryd.sizeOf3 rfl) rfl ?_))
  all_goals (first | (refine TE_s rfl rfl rfl rfl rfl ?_) | (refine TE_l rfl rfl ⟨_, rfl, rfl⟩ rfl (RD.load (i := 1) Tryd.isAgg3 rfl rfl rfl) rfl ?_))
  all_goals (first | (refine TE_s rfl rfl rfl rfl rfl ?_) | (refine TE_gq rfl rfl rfl rfl (RD.fieldAddr (o := 0) Tryd.runUnderlying23 rfl rfl Tryd.sizeOf3 rfl) rfl ?_))
  all_goals (first | (refine TE_s rfl rfl rfl rfl rfl ?_) | (refine TE_l rfl rfl ⟨_, rfl, rfl⟩ rfl (RD.load (i := 0) Tryd.isAgg3 rfl rfl rfl) rfl ?_))
  all_goals (first | (refine TE_s rfl rfl rfl rfl rfl ?_) | (refine TE_gq rfl rfl rfl rfl (RD.eql rfl rfl) rfl ?_))
  all_goals (first | (refine TE_s rfl rfl rfl rfl rfl ?_) | (refine TE_gq rfl rfl rfl rfl (RD.move rfl) rfl ?_))
  all_goals (first | refine TE_isT ?_ | refine TE_isF ?_ | refine TE_dec (fun h111 => ?_) (fun h111 => ?_) | refine TE_ndec (fun h111 => ?_) (fun h111 => ?_) | refine TE_bool (fun h111 => ?_) (fun h111 => ?_) | skip)
  all_goals (first | (refine TE_s rfl rfl rfl rfl rfl ?_) | (refine TE_su rfl rfl rfl rfl ?_) | (refine TE_gq rfl rfl rfl rfl (RD.fieldAddr (o := 1) Tryd.runUnderlying23 rfl rfl Tryd.sizeOf3 rfl) rfl ?_))
  all_goals (first | (refine TE_s rfl rfl rfl rfl rfl ?_) | (refine TE_su rfl rfl rfl rfl ?_) | (refine TE_l rfl rfl ⟨_, rfl, rfl⟩ rfl (RD.load (i := 1) Tryd.isAgg3 rfl rfl rfl) rfl ?_))
  all_goals (first | (refine TE_s rfl rfl rfl rfl rfl ?_) | (refine TE_su rfl rfl rfl rfl ?_) | (refine TE_gq rfl rfl rfl rfl (RD.fieldAddr (o := 1) Tryd.runUnderlying23 rfl rfl Tryd.sizeOf3 rfl) rfl ?_))
  all_goals (first | (refine TE_s rfl rfl rfl rfl rfl ?_) | (refine TE_su rfl rfl rfl rfl ?_) | (refine TE_l rfl rfl ⟨_, rfl, rfl⟩ rfl (RD.load (i := 0) Tryd.isAgg3 rfl rfl rfl) rfl ?_))
  all_goals (first | (refine TE_s rfl rfl rfl rfl rfl ?_) | (refine TE_su rfl rfl rfl rfl ?_) | (refine TE_gq rfl rfl rfl rfl (RD.lss rfl rfl) rfl ?_))
  all_goals (first | (refine TE_s rfl rfl rfl rfl rfl ?_) | (refine TE_gq rfl rfl rfl rfl (RD.pickT rfl rfl) rfl ?_) | (refine TE_gq rfl rfl rfl rfl (RD.pickF rfl rfl) rfl ?_))
  all_goals (first | (refine TE_q rfl rfl (RD.pickT rfl rfl) rfl ?_) | (refine TE_q rfl rfl (RD.pickF rfl rfl) rfl ?_))
  all_goals refine TE_nil0 ?_
  all_goals first
    | (
        refine pn_condT rfl ?_
        refine pn_seq ?_
        refine pn_plain [] rfl ?_
        refine TE_q rfl rfl (RD.assign rfl) rfl ?_
        refine TE_nil0 ?_
        refine pn_ret ?_
        first | exact pn_done rfl rfl ⟨by unfold cmp05; rw [if_pos (by omega)]; rfl, rfl⟩ (List.nil_sublist _) (by simp))
    | (
        refine pn_condF rfl ?_
        refine pn_skip ?_
        refine pn_seq ?_
        refine pn_seq ?_
        refine pn_plain [] rfl ?_
        refine TE_l rfl rfl trivial rfl (RD.loadA (i := 1) Tryd.isAgg23 Tryd.sizeOf23 rfl rfl (Nat.le_of_ble_eq_true rfl) (dot_all _ _)) rfl ?_
        refine TE_l rfl rfl trivial rfl (RD.loadA (i := 0) Tryd.isAgg23 Tryd.sizeOf23 rfl rfl (Nat.le_of_ble_eq_true rfl) (dot_all _ _)) rfl ?_
        refine TE_q rfl rfl (RD.eql_agg Tryd.eqGuardType23 (eq_dot s c s' c') rfl rfl) rfl ?_
        refine TE_nil0 ?_
        first | refine pn_condD rfl (fun hc1 => ?_) (fun hc1 => ?_) | refine pn_condN rfl (fun hc1 => ?_) (fun hc1 => ?_) | refine pn_cond rfl (fun hc1 => ?_) (fun hc1 => ?_)
        · refine pn_seq ?_
          refine pn_plain [] rfl ?_
          refine TE_q rfl rfl (RD.assign rfl) rfl ?_
          refine TE_nil0 ?_
          refine pn_ret ?_
          first | exact pn_done rfl rfl ⟨by unfold cmp05; rw [if_neg (by omega), if_pos (by simp_all)]; rfl, rfl⟩ (List.nil_sublist _) (by simp)
        · refine pn_skip ?_
          refine pn_seq ?_
          refine pn_plain [] rfl ?_
          refine TE_q rfl rfl (RD.assign rfl) rfl ?_
          refine TE_nil0 ?_
          refine pn_ret ?_
          first | exact pn_done rfl rfl ⟨by unfold cmp05; rw [if_neg (by omega), if_neg (by simp_all)]; rfl, rfl⟩ (List.nil_sublist _) (by simp))
    | (
        first | refine pn_condD rfl (fun hc0 => ?_) (fun hc0 => ?_) | refine pn_condN rfl (fun hc0 => ?_) (fun hc0 => ?_) | refine pn_cond rfl (fun hc0 => ?_) (fun hc0 => ?_)
        · refine pn_seq ?_
          refine pn_plain [] rfl ?_
          refine TE_q rfl rfl (RD.assign rfl) rfl ?_
          refine TE_nil0 ?_
          refine pn_ret ?_
          first | exact pn_done rfl rfl ⟨by unfold cmp05; rw [if_pos (by omega)]; rfl, rfl⟩ (List.nil_sublist _) (by simp)
        · refine pn_skip ?_
          refine pn_seq ?_
          refine pn_seq ?_
          refine pn_plain [] rfl ?_
          refine TE_l rfl rfl trivial rfl (RD.loadA (i := 1) Tryd.isAgg23 Tryd.sizeOf23 rfl rfl (Nat.le_of_ble_eq_true rfl) (dot_all _ _)) rfl ?_
          refine TE_l rfl rfl trivial rfl (RD.loadA (i := 0) Tryd.isAgg23 Tryd.sizeOf23 rfl rfl (Nat.le_of_ble_eq_true rfl) (dot_all _ _)) rfl ?_
          refine TE_q rfl rfl (RD.eql_agg Tryd.eqGuardType23 (eq_dot s c s' c') rfl rfl) rfl ?_
          refine TE_nil0 ?_
          first | refine pn_condD rfl (fun hc1 => ?_) (fun hc1 => ?_) | refine pn_condN rfl (fun hc1 => ?_) (fun hc1 => ?_) | refine pn_cond rfl (fun hc1 => ?_) (fun hc1 => ?_)
          · refine pn_seq ?_
            refine pn_plain [] rfl ?_
            refine TE_q rfl rfl (RD.assign rfl) rfl ?_
            refine TE_nil0 ?_
            refine pn_ret ?_
            first | exact pn_done rfl rfl ⟨by unfold cmp05; rw [if_neg (by omega), if_pos (by simp_all)]; rfl, rfl⟩ (List.nil_sublist _) (by simp)
          · refine pn_skip ?_
            refine pn_seq ?_
            refine pn_plain [] rfl ?_
            refine TE_q rfl rfl (RD.assign rfl) rfl ?_
            refine TE_nil0 ?_
            refine pn_ret ?_
            first | exact pn_done rfl rfl ⟨by unfold cmp05; rw [if_neg (by omega), if_neg (by simp_all)]; rfl, rfl⟩ (List.nil_sublist _) (by simp))

theorem c_r12First (a b : Rec) (w : World) (ha : RecOk a) (hb : RecOk b) : Calls Tryd.prog 56 #[recV a, recV b] w (Ret w [] fun v H1 => v = .bool (decide (recCmp a b < 0)) ∧ H1 = []) := by
  refine fn_enter (args := [_, _]) Tryd.func56 rfl Tryd.ntmps56 rfl (Hp.nil w) ?_
  refine pn_seq ?_
  refine pn_plain [] rfl ?_
  refine TE_box rfl rfl trivial rfl fun b2 hb2 => ?_
  refine TE_box rfl rfl trivial rfl fun b3 hb3 => ?_
  refine TE_q rfl rfl (RD.assign rfl) rfl ?_
  refine TE_nil0 ?_
  refine pn_seq ?_
  refine pn_seq ?_
  refine pn_draw [0, 2] [] [0, 1] rfl (by kernel_rfl) (by kernel_rfl) rfl rfl ?_
  refine TE_q rfl rfl (RD.loadA (i := 1) Tryd.isAgg30 Tryd.sizeOf30 rfl rfl (Nat.le_of_ble_eq_true rfl) (rec_all _)) rfl ?_
  refine TE_call rfl rfl trivial Tryd.call81 rfl rfl rfl (fun w hs' => c_r12Far a w ha) ?_
  rintro v6 H1 ⟨rfl, rfl⟩ -
  refine TE_q rfl rfl (RD.loadA (i := 0) Tryd.isAgg30 Tryd.sizeOf30 rfl rfl (Nat.le_of_ble_eq_true rfl) (rec_all _)) rfl ?_
  refine TE_call rfl rfl trivial Tryd.call81 rfl rfl rfl (fun w hs' => c_r12Far b w hb) ?_
  rintro v8 H3 ⟨rfl, rfl⟩ -
  refine TE_q rfl rfl (RD.neq rfl rfl) rfl ?_
  refine TE_nil ?_
  first | refine pn_condD rfl (fun hc0 => ?_) (fun hc0 => ?_) | refine pn_condN rfl (fun hc0 => ?_) (fun hc0 => ?_) | refine pn_cond rfl (fun hc0 => ?_) (fun hc0 => ?_)
  · refine pn_seq ?_
    refine pn_draw [0, 2] [] [0, 1] rfl (by kernel_rfl) (by kernel_rfl) rfl rfl ?_
    refine TE_q rfl rfl (RD.loadA (i := 1) Tryd.isAgg30 Tryd.sizeOf30 rfl rfl (Nat.le_of_ble_eq_true rfl) (rec_all _)) rfl ?_
    refine TE_call rfl rfl trivial Tryd.call81 rfl rfl rfl (fun w hs' => c_r12Far a w ha) ?_
    rintro v11 H1 ⟨rfl, rfl⟩ -
    refine TE_q rfl rfl (RD.loadA (i := 0) Tryd.isAgg30 Tryd.sizeOf30 rfl rfl (Nat.le_of_ble_eq_true rfl) (rec_all _)) rfl ?_
    refine TE_call rfl rfl trivial Tryd.call81 rfl rfl rfl (fun w hs' => c_r12Far b w hb) ?_
    rintro v13 H3 ⟨rfl, rfl⟩ -
    refine TE_q rfl rfl (RD.lss rfl rfl) rfl ?_
    refine TE_q rfl rfl (RD.assign rfl) rfl ?_
    refine TE_nil ?_
    refine pn_ret ?_
    exact pn_done rfl rfl ⟨congrArg Value.bool (decide_eq_decide.2 (by rw [recCmp_lt]; omega)), rfl⟩ (List.nil_sublist _) (by simp)
  · refine pn_skip ?_
    refine pn_seq ?_
    refine pn_plain [] rfl ?_
    refine TE_q rfl rfl (RD.fieldAddr (o := 0) Tryd.runUnderlying30 rfl rfl Tryd.sizeOf23 rfl) rfl ?_
    refine TE_l rfl rfl trivial rfl (RD.loadA (i := 1) Tryd.isAgg23 Tryd.sizeOf23 rfl rfl (Nat.le_of_ble_eq_true rfl) (rec_dot _)) rfl ?_
    refine TE_q rfl rfl (RD.fieldAddr (o := 0) Tryd.runUnderlying30 rfl rfl Tryd.sizeOf23 rfl) rfl ?_
    refine TE_l rfl rfl trivial rfl (RD.loadA (i := 0) Tryd.isAgg23 Tryd.sizeOf23 rfl rfl (Nat.le_of_ble_eq_true rfl) (rec_dot _)) rfl ?_
    refine TE_call rfl rfl trivial Tryd.call82 rfl rfl rfl (fun w hs' => c_r5Cmp a.s a.c b.s b.c w) ?_
    rintro v19 H4 ⟨rfl, rfl⟩ -
    refine TE_q rfl rfl (RD.lss rfl rfl) rfl ?_
    refine TE_q rfl rfl (RD.assign rfl) rfl ?_
    refine TE_nil0 ?_
    refine pn_ret ?_
    exact pn_done rfl rfl ⟨congrArg Value.bool (decide_eq_decide.2 (by rw [recCmp_lt, cmp05_neg]; omega)), rfl⟩ (List.nil_sublist _) (by simp)

end Go.Proofs.YthagkkmbbncclaaDoor
