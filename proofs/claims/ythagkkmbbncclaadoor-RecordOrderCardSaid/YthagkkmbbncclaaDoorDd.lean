import Derived.Test.YthagkkmbbncclaaDoorRdr
namespace Go.Proofs.YthagkkmbbncclaaDoor
open Go Go.Mv
set_option maxRecDepth 8000
theorem bd_dot (a b : Int) (w : World) : (Instr.build 23 #[(0, .int .i64 a), (1, .int .i64 b)]).run Tryd.prog w = .ok (dotV a b) w := by
  simp [Instr.build, Tryd.zeroValue23, Tryd.runUnderlying23, Tryd.sizeOf3, Value.cells, Instr.fill, dotV]
theorem bd_dot0 (w : World) : (Instr.build 23 #[]).run Tryd.prog w = .ok (dotV 0 0) w := by
  simp [Instr.build, Tryd.zeroValue23, Tryd.runUnderlying23, Value.cells, Instr.fill, dotV]
theorem bd_vec0 (w : World) : (Instr.build 26 #[]).run Tryd.prog w = .ok (vecV fun _ => 0) w := by
  simp [Instr.build, Tryd.zeroValue26, Tryd.runUnderlying26, Tryd.sizeOf24, Value.cells, Instr.fill, vecV]

set_option maxHeartbeats 2000000 in

theorem c_dotDec (HX : Mem) (s : Nat) (sv : Value) (ys : List UInt8) (w : World) (hb : Rdb HX sv ys) (hlen : ys.length ≤ 2199023255552) (hw : Hp (srcM s sv HX) w) : Calls Tryd.prog 65 #[.pointer (some ⟨s, 0, none⟩)] w (Ret w (keys (srcM s sv HX)) (Reads HX s (fun d : Nat × Nat => dotV d.1 d.2) (dotV 0 0) ys (dotD ys))) := by
  refine fn_enter (args := [_]) Tryd.func65 rfl Tryd.ntmps65 rfl hw ?_
  refine pn_seq ?_
  refine pn_plain [] rfl ?_
  refine TE_alloc rfl Tryd.zeroValue23 trivial rfl fun b2 hb2 => ?_
  refine TE_q rfl rfl (RD.assign rfl) rfl ?_
  refine TE_nil0 ?_
  refine pn_seq ?_
  refine pn_plain [] rfl ?_
  refine TE_q rfl rfl (RD.move rfl) rfl ?_
  refine TE_callT [_] (srcM s sv HX) rfl rfl rfl trivial Tryd.call71 rfl rfl rfl (fun e he => .inr (mem_keys.2 ⟨e, he, rfl⟩)) (fun w hs' => c_num HX s 15 sv ys w hb (by omega) (by omega) (hs'.hp.left.right (A := [_]))) ?_
  rintro v11 H1 (⟨n, r, v1, hd, rfl, rfl, hq1, hl1⟩ | ⟨e, v1, r, hd, he, rfl, rfl, hq1, hl1⟩) hX1
  all_goals refine TE_q rfl rfl (RD.move rfl) rfl ?_
  all_goals refine TE_q rfl rfl (RD.extract rfl rfl) rfl ?_
  all_goals refine TE_q rfl rfl (RD.extract rfl rfl) rfl ?_
  all_goals refine TE_q rfl rfl (RD.assign rfl) rfl ?_
  all_goals refine TE_q rfl rfl (RD.assign rfl) rfl ?_
  all_goals refine TE_nil0 ?_
  all_goals refine pn_seq ?_
  all_goals refine pn_seq ?_
  all_goals refine pn_plain [] rfl ?_
  all_goals refine TE_q rfl rfl (RD.move rfl) rfl ?_
  all_goals first | refine TE_q rfl rfl (RD.as (v := .bool true) (RD.neq rfl rfl) (by rw [decide_eq_false he]; rfl)) rfl ?_ | refine TE_q rfl rfl (RD.neq rfl rfl) rfl ?_
  all_goals refine TE_nil0 ?_
  all_goals first
    | (
        refine pn_condT rfl ?_
        refine pn_seq ?_
        refine pn_plain [] rfl ?_
        refine TE_q rfl rfl (RD.build rfl bd_dot0) rfl ?_
        refine TE_q rfl rfl (RD.move rfl) rfl ?_
        refine TE_put (i := 0) rfl Tryd.sizeOf23 trivial rfl rfl rfl rfl rfl rfl (.inl hb2) ?_
        refine TE_q rfl rfl (RD.assign rfl) rfl ?_
        refine TE_nil0 ?_
        refine pn_ret ?_
        exact pn_doneF rfl ⟨dotV 0 0, _, b2, 0, rfl, rfl, load_agg (i := 0) Tryd.isAgg23 Tryd.sizeOf23 rfl (by first | (rw [size_putL]; exact Nat.le_of_ble_eq_true rfl) | exact Nat.le_of_ble_eq_true rfl) rfl, _, _, rfl, rfl, rfl⟩ (.inr ⟨e, _, r, by simp only [dotD, hd], he, rfl, rfl, hq1, hl1⟩) (fun w h => h.sub (List.sublist_cons_self _ _)) in_src)
    | (
        refine pn_condF rfl ?_
        refine pn_skip ?_
        refine pn_seq ?_
        refine pn_plain [] rfl ?_
        refine TE_q rfl rfl (RD.move rfl) rfl ?_
        refine TE_callT [_] (srcM s v1 HX) rfl rfl rfl trivial Tryd.call71 rfl rfl rfl hX1 (fun w hs' => c_num HX s 4294967295 v1 r w hq1 (by omega) (by omega) (hs'.hp.left.right (A := [_]))) ?_
        rintro v20 H1 (⟨k, r2, v2, hd2, rfl, rfl, hq2, hl2⟩ | ⟨e, v2, r2, hd2, he, rfl, rfl, hq2, hl2⟩) hX2
        all_goals refine TE_q rfl rfl (RD.move rfl) rfl ?_
        all_goals refine TE_q rfl rfl (RD.extract rfl rfl) rfl ?_
        all_goals refine TE_q rfl rfl (RD.extract rfl rfl) rfl ?_
        all_goals refine TE_q rfl rfl (RD.assign rfl) rfl ?_
        all_goals refine TE_q rfl rfl (RD.assign rfl) rfl ?_
        all_goals refine TE_nil0 ?_
        all_goals refine pn_seq ?_
        all_goals refine pn_seq ?_
        all_goals refine pn_plain [] rfl ?_
        all_goals refine TE_q rfl rfl (RD.move rfl) rfl ?_
        all_goals first | refine TE_q rfl rfl (RD.as (v := .bool true) (RD.neq rfl rfl) (by rw [decide_eq_false he]; rfl)) rfl ?_ | refine TE_q rfl rfl (RD.neq rfl rfl) rfl ?_
        all_goals refine TE_nil0 ?_
        all_goals first
          | (
              refine pn_condT rfl ?_
              refine pn_seq ?_
              refine pn_plain [] rfl ?_
              refine TE_q rfl rfl (RD.build rfl bd_dot0) rfl ?_
              refine TE_q rfl rfl (RD.move rfl) rfl ?_
              refine TE_put (i := 0) rfl Tryd.sizeOf23 trivial rfl rfl rfl rfl rfl rfl (.inl hb2) ?_
              refine TE_q rfl rfl (RD.assign rfl) rfl ?_
              refine TE_nil0 ?_
              refine pn_ret ?_
              exact pn_doneF rfl ⟨dotV 0 0, _, b2, 0, rfl, rfl, load_agg (i := 0) Tryd.isAgg23 Tryd.sizeOf23 rfl (by first | (rw [size_putL]; exact Nat.le_of_ble_eq_true rfl) | exact Nat.le_of_ble_eq_true rfl) rfl, _, _, rfl, rfl, rfl⟩ (.inr ⟨e, _, r2, by simp only [dotD, hd, hd2], he, rfl, rfl, hq2, by omega⟩) (fun w h => h.sub (List.sublist_cons_self _ _)) in_src)
          | (
              refine pn_condF rfl ?_
              refine pn_skip ?_
              refine pn_seq ?_
              refine pn_plain [1, 3] rfl ?_
              refine TE_q rfl rfl (RD.move rfl) rfl ?_
              have hn15 := (numD_ok hd).2.1; have hk32 := (numD_ok hd2).2.1
              refine TE_q rfl rfl (RD.as (RD.conv Tryd.runUnderlying74 Tryd.runUnderlying3 rfl) (by rw [wrap64_id (by omega) (by omega)])) rfl ?_
              refine TE_q rfl rfl (RD.move rfl) rfl ?_
              refine TE_q rfl rfl (RD.as (RD.conv Tryd.runUnderlying74 Tryd.runUnderlying3 rfl) (by rw [wrap64_id (by omega) (by omega)])) rfl ?_
              refine TE_q rfl rfl (RD.build rfl (bd_dot _ _)) rfl ?_
              refine TE_alloc rfl Tryd.zeroValue23 trivial rfl fun b7 hb7 => ?_
              refine TE_put (i := 0) rfl Tryd.sizeOf23 trivial rfl rfl rfl rfl rfl rfl (.inl hb7) ?_
              refine TE_nil0 ?_
              refine pn_seq ?_
              refine pn_seq ?_
              refine pn_plain [] rfl ?_
              refine TE_l rfl rfl trivial rfl (RD.loadA (v := dotV n k) (i := 0) Tryd.isAgg23 Tryd.sizeOf23 rfl rfl (Nat.le_of_ble_eq_true rfl) rfl) rfl ?_
              refine TE_call rfl rfl trivial Tryd.call29 rfl rfl rfl (fun w hs' => c_dotCheck n k w) ?_
              rintro v33 H1 ⟨rfl, rfl⟩ -
              refine TE_q rfl rfl (RD.assign rfl) rfl ?_
              refine TE_nil0 ?_
              refine pn_seq ?_
              refine pn_plain [] rfl ?_
              refine TE_q rfl rfl (RD.move rfl) rfl ?_
              refine TE_q rfl rfl (RD.neq rfl rfl) rfl ?_
              refine TE_nil0 ?_
              first | refine pn_condD rfl (fun hc2 => ?_) (fun hc2 => ?_) | refine pn_condN rfl (fun hc2 => ?_) (fun hc2 => ?_) | refine pn_cond rfl (fun hc2 => ?_) (fun hc2 => ?_)
              · refine pn_seq ?_
                refine pn_plain [] rfl ?_
                refine TE_q rfl rfl (RD.build rfl bd_dot0) rfl ?_
                refine TE_q rfl rfl (RD.move rfl) rfl ?_
                refine TE_put (i := 1) rfl Tryd.sizeOf23 trivial rfl rfl rfl rfl rfl rfl (.inl hb2) ?_
                refine TE_q rfl rfl (RD.assign rfl) rfl ?_
                refine TE_nil0 ?_
                refine pn_ret ?_
                (have hk0 : k = 0 := (by have := err1 hc2; by_cases h0 : k = 0; exact h0; (rw [dotOk_iff.2 (by omega)] at this; cases this))); rw [err1 hc2]; exact pn_doneF rfl ⟨dotV 0 0, _, b2, 0, rfl, rfl, load_agg (i := 1) Tryd.isAgg23 Tryd.sizeOf23 rfl (by first | (rw [size_putL]; exact Nat.le_of_ble_eq_true rfl) | exact Nat.le_of_ble_eq_true rfl) rfl, _, _, rfl, rfl, rfl⟩ (.inr ⟨50, _, r2, by simp only [dotD, hd, hd2]; rw [if_pos hk0], by decide, rfl, rfl, hq2, by omega⟩) (fun w h => h.sub (.cons _ (List.sublist_cons_self _ _))) in_src
              · refine pn_skip ?_
                refine pn_seq ?_
                refine pn_plain [] rfl ?_
                refine TE_l rfl rfl trivial rfl (RD.loadA (v := dotV n k) (i := 0) Tryd.isAgg23 Tryd.sizeOf23 rfl rfl (Nat.le_of_ble_eq_true rfl) rfl) rfl ?_
                refine TE_put (i := 1) rfl Tryd.sizeOf23 trivial rfl rfl rfl rfl rfl rfl (.inl hb2) ?_
                refine TE_q rfl rfl (RD.assign rfl) rfl ?_
                refine TE_nil0 ?_
                refine pn_ret ?_
                have hok := dotOk_iff.1 (err0 hc2); exact pn_doneF rfl ⟨dotV n k, _, b2, 0, rfl, rfl, load_agg (i := 1) Tryd.isAgg23 Tryd.sizeOf23 rfl (by first | (rw [size_putL]; exact Nat.le_of_ble_eq_true rfl) | exact Nat.le_of_ble_eq_true rfl) rfl, _, _, rfl, rfl, rfl⟩ (.inl ⟨(n, k), r2, _, by simp only [dotD, hd, hd2]; rw [if_neg (by omega)], rfl, rfl, hq2, by omega⟩) (fun w h => h.sub (.cons _ (List.sublist_cons_self _ _))) in_src)
          | (
              first | refine pn_condD rfl (fun hc1 => ?_) (fun hc1 => ?_) | refine pn_condN rfl (fun hc1 => ?_) (fun hc1 => ?_) | refine pn_cond rfl (fun hc1 => ?_) (fun hc1 => ?_)
              · refine pn_seq ?_
                refine pn_plain [] rfl ?_
                refine TE_q rfl rfl (RD.build rfl bd_dot0) rfl ?_
                refine TE_q rfl rfl (RD.move rfl) rfl ?_
                refine TE_put (i := 0) rfl Tryd.sizeOf23 trivial rfl rfl rfl rfl rfl rfl (.inl hb2) ?_
                refine TE_q rfl rfl (RD.assign rfl) rfl ?_
                refine TE_nil0 ?_
                refine pn_ret ?_
                exact pn_doneF rfl ⟨dotV 0 0, _, b2, 0, rfl, rfl, load_agg (i := 0) Tryd.isAgg23 Tryd.sizeOf23 rfl (by first | (rw [size_putL]; exact Nat.le_of_ble_eq_true rfl) | exact Nat.le_of_ble_eq_true rfl) rfl, _, _, rfl, rfl, rfl⟩ (.inr ⟨e, _, r2, by simp only [dotD, hd, hd2], he, rfl, rfl, hq2, by omega⟩) (fun w h => h.sub (List.sublist_cons_self _ _)) in_src
              · refine pn_skip ?_
                refine pn_seq ?_
                refine pn_plain [1, 3] rfl ?_
                refine TE_q rfl rfl (RD.move rfl) rfl ?_
                have hn15 := (numD_ok hd).2.1; have hk32 := (numD_ok hd2).2.1
                refine TE_q rfl rfl (RD.as (RD.conv Tryd.runUnderlying74 Tryd.runUnderlying3 rfl) (by rw [wrap64_id (by omega) (by omega)])) rfl ?_
                refine TE_q rfl rfl (RD.move rfl) rfl ?_
                refine TE_q rfl rfl (RD.as (RD.conv Tryd.runUnderlying74 Tryd.runUnderlying3 rfl) (by rw [wrap64_id (by omega) (by omega)])) rfl ?_
                refine TE_q rfl rfl (RD.build rfl (bd_dot _ _)) rfl ?_
                refine TE_alloc rfl Tryd.zeroValue23 trivial rfl fun b7 hb7 => ?_
                refine TE_put (i := 0) rfl Tryd.sizeOf23 trivial rfl rfl rfl rfl rfl rfl (.inl hb7) ?_
                refine TE_nil0 ?_
                refine pn_seq ?_
                refine pn_seq ?_
                refine pn_plain [] rfl ?_
                refine TE_l rfl rfl trivial rfl (RD.loadA (v := dotV n k) (i := 0) Tryd.isAgg23 Tryd.sizeOf23 rfl rfl (Nat.le_of_ble_eq_true rfl) rfl) rfl ?_
                refine TE_call rfl rfl trivial Tryd.call29 rfl rfl rfl (fun w hs' => c_dotCheck n k w) ?_
                rintro v33 H1 ⟨rfl, rfl⟩ -
                refine TE_q rfl rfl (RD.assign rfl) rfl ?_
                refine TE_nil0 ?_
                refine pn_seq ?_
                refine pn_plain [] rfl ?_
                refine TE_q rfl rfl (RD.move rfl) rfl ?_
                refine TE_q rfl rfl (RD.neq rfl rfl) rfl ?_
                refine TE_nil0 ?_
                first | refine pn_condD rfl (fun hc2 => ?_) (fun hc2 => ?_) | refine pn_condN rfl (fun hc2 => ?_) (fun hc2 => ?_) | refine pn_cond rfl (fun hc2 => ?_) (fun hc2 => ?_)
                · refine pn_seq ?_
                  refine pn_plain [] rfl ?_
                  refine TE_q rfl rfl (RD.build rfl bd_dot0) rfl ?_
                  refine TE_q rfl rfl (RD.move rfl) rfl ?_
                  refine TE_put (i := 1) rfl Tryd.sizeOf23 trivial rfl rfl rfl rfl rfl rfl (.inl hb2) ?_
                  refine TE_q rfl rfl (RD.assign rfl) rfl ?_
                  refine TE_nil0 ?_
                  refine pn_ret ?_
                  (have hk0 : k = 0 := (by have := err1 hc2; by_cases h0 : k = 0; exact h0; (rw [dotOk_iff.2 (by omega)] at this; cases this))); rw [err1 hc2]; exact pn_doneF rfl ⟨dotV 0 0, _, b2, 0, rfl, rfl, load_agg (i := 1) Tryd.isAgg23 Tryd.sizeOf23 rfl (by first | (rw [size_putL]; exact Nat.le_of_ble_eq_true rfl) | exact Nat.le_of_ble_eq_true rfl) rfl, _, _, rfl, rfl, rfl⟩ (.inr ⟨50, _, r2, by simp only [dotD, hd, hd2]; rw [if_pos hk0], by decide, rfl, rfl, hq2, by omega⟩) (fun w h => h.sub (.cons _ (List.sublist_cons_self _ _))) in_src
                · refine pn_skip ?_
                  refine pn_seq ?_
                  refine pn_plain [] rfl ?_
                  refine TE_l rfl rfl trivial rfl (RD.loadA (v := dotV n k) (i := 0) Tryd.isAgg23 Tryd.sizeOf23 rfl rfl (Nat.le_of_ble_eq_true rfl) rfl) rfl ?_
                  refine TE_put (i := 1) rfl Tryd.sizeOf23 trivial rfl rfl rfl rfl rfl rfl (.inl hb2) ?_
                  refine TE_q rfl rfl (RD.assign rfl) rfl ?_
                  refine TE_nil0 ?_
                  refine pn_ret ?_
                  have hok := dotOk_iff.1 (err0 hc2); exact pn_doneF rfl ⟨dotV n k, _, b2, 0, rfl, rfl, load_agg (i := 1) Tryd.isAgg23 Tryd.sizeOf23 rfl (by first | (rw [size_putL]; exact Nat.le_of_ble_eq_true rfl) | exact Nat.le_of_ble_eq_true rfl) rfl, _, _, rfl, rfl, rfl⟩ (.inl ⟨(n, k), r2, _, by simp only [dotD, hd, hd2]; rw [if_neg (by omega)], rfl, rfl, hq2, by omega⟩) (fun w h => h.sub (.cons _ (List.sublist_cons_self _ _))) in_src))
    | (
        first | refine pn_condD rfl (fun hc0 => ?_) (fun hc0 => ?_) | refine pn_condN rfl (fun hc0 => ?_) (fun hc0 => ?_) | refine pn_cond rfl (fun hc0 => ?_) (fun hc0 => ?_)
        · refine pn_seq ?_
          refine pn_plain [] rfl ?_
          refine TE_q rfl rfl (RD.build rfl bd_dot0) rfl ?_
          refine TE_q rfl rfl (RD.move rfl) rfl ?_
          refine TE_put (i := 0) rfl Tryd.sizeOf23 trivial rfl rfl rfl rfl rfl rfl (.inl hb2) ?_
          refine TE_q rfl rfl (RD.assign rfl) rfl ?_
          refine TE_nil0 ?_
          refine pn_ret ?_
          exact pn_doneF rfl ⟨dotV 0 0, _, b2, 0, rfl, rfl, load_agg (i := 0) Tryd.isAgg23 Tryd.sizeOf23 rfl (by first | (rw [size_putL]; exact Nat.le_of_ble_eq_true rfl) | exact Nat.le_of_ble_eq_true rfl) rfl, _, _, rfl, rfl, rfl⟩ (.inr ⟨e, _, r, by simp only [dotD, hd], he, rfl, rfl, hq1, hl1⟩) (fun w h => h.sub (List.sublist_cons_self _ _)) in_src
        · refine pn_skip ?_
          refine pn_seq ?_
          refine pn_plain [] rfl ?_
          refine TE_q rfl rfl (RD.move rfl) rfl ?_
          refine TE_callT [_] (srcM s v1 HX) rfl rfl rfl trivial Tryd.call71 rfl rfl rfl hX1 (fun w hs' => c_num HX s 4294967295 v1 r w hq1 (by omega) (by omega) (hs'.hp.left.right (A := [_]))) ?_
          rintro v20 H1 (⟨k, r2, v2, hd2, rfl, rfl, hq2, hl2⟩ | ⟨e, v2, r2, hd2, he, rfl, rfl, hq2, hl2⟩) hX2
          all_goals refine TE_q rfl rfl (RD.move rfl) rfl ?_
          all_goals refine TE_q rfl rfl (RD.extract rfl rfl) rfl ?_
          all_goals refine TE_q rfl rfl (RD.extract rfl rfl) rfl ?_
          all_goals refine TE_q rfl rfl (RD.assign rfl) rfl ?_
          all_goals refine TE_q rfl rfl (RD.assign rfl) rfl ?_
          all_goals refine TE_nil0 ?_
          all_goals refine pn_seq ?_
          all_goals refine pn_seq ?_
          all_goals refine pn_plain [] rfl ?_
          all_goals refine TE_q rfl rfl (RD.move rfl) rfl ?_
          all_goals first | refine TE_q rfl rfl (RD.as (v := .bool true) (RD.neq rfl rfl) (by rw [decide_eq_false he]; rfl)) rfl ?_ | refine TE_q rfl rfl (RD.neq rfl rfl) rfl ?_
          all_goals refine TE_nil0 ?_
          all_goals first
            | (
                refine pn_condT rfl ?_
                refine pn_seq ?_
                refine pn_plain [] rfl ?_
                refine TE_q rfl rfl (RD.build rfl bd_dot0) rfl ?_
                refine TE_q rfl rfl (RD.move rfl) rfl ?_
                refine TE_put (i := 0) rfl Tryd.sizeOf23 trivial rfl rfl rfl rfl rfl rfl (.inl hb2) ?_
                refine TE_q rfl rfl (RD.assign rfl) rfl ?_
                refine TE_nil0 ?_
                refine pn_ret ?_
                exact pn_doneF rfl ⟨dotV 0 0, _, b2, 0, rfl, rfl, load_agg (i := 0) Tryd.isAgg23 Tryd.sizeOf23 rfl (by first | (rw [size_putL]; exact Nat.le_of_ble_eq_true rfl) | exact Nat.le_of_ble_eq_true rfl) rfl, _, _, rfl, rfl, rfl⟩ (.inr ⟨e, _, r2, by simp only [dotD, hd, hd2], he, rfl, rfl, hq2, by omega⟩) (fun w h => h.sub (List.sublist_cons_self _ _)) in_src)
            | (
                refine pn_condF rfl ?_
                refine pn_skip ?_
                refine pn_seq ?_
                refine pn_plain [1, 3] rfl ?_
                refine TE_q rfl rfl (RD.move rfl) rfl ?_
                have hn15 := (numD_ok hd).2.1; have hk32 := (numD_ok hd2).2.1
                refine TE_q rfl rfl (RD.as (RD.conv Tryd.runUnderlying74 Tryd.runUnderlying3 rfl) (by rw [wrap64_id (by omega) (by omega)])) rfl ?_
                refine TE_q rfl rfl (RD.move rfl) rfl ?_
                refine TE_q rfl rfl (RD.as (RD.conv Tryd.runUnderlying74 Tryd.runUnderlying3 rfl) (by rw [wrap64_id (by omega) (by omega)])) rfl ?_
                refine TE_q rfl rfl (RD.build rfl (bd_dot _ _)) rfl ?_
                refine TE_alloc rfl Tryd.zeroValue23 trivial rfl fun b7 hb7 => ?_
                refine TE_put (i := 0) rfl Tryd.sizeOf23 trivial rfl rfl rfl rfl rfl rfl (.inl hb7) ?_
                refine TE_nil0 ?_
                refine pn_seq ?_
                refine pn_seq ?_
                refine pn_plain [] rfl ?_
                refine TE_l rfl rfl trivial rfl (RD.loadA (v := dotV n k) (i := 0) Tryd.isAgg23 Tryd.sizeOf23 rfl rfl (Nat.le_of_ble_eq_true rfl) rfl) rfl ?_
                refine TE_call rfl rfl trivial Tryd.call29 rfl rfl rfl (fun w hs' => c_dotCheck n k w) ?_
                rintro v33 H1 ⟨rfl, rfl⟩ -
                refine TE_q rfl rfl (RD.assign rfl) rfl ?_
                refine TE_nil0 ?_
                refine pn_seq ?_
                refine pn_plain [] rfl ?_
                refine TE_q rfl rfl (RD.move rfl) rfl ?_
                refine TE_q rfl rfl (RD.neq rfl rfl) rfl ?_
                refine TE_nil0 ?_
                first | refine pn_condD rfl (fun hc2 => ?_) (fun hc2 => ?_) | refine pn_condN rfl (fun hc2 => ?_) (fun hc2 => ?_) | refine pn_cond rfl (fun hc2 => ?_) (fun hc2 => ?_)
                · refine pn_seq ?_
                  refine pn_plain [] rfl ?_
                  refine TE_q rfl rfl (RD.build rfl bd_dot0) rfl ?_
                  refine TE_q rfl rfl (RD.move rfl) rfl ?_
                  refine TE_put (i := 1) rfl Tryd.sizeOf23 trivial rfl rfl rfl rfl rfl rfl (.inl hb2) ?_
                  refine TE_q rfl rfl (RD.assign rfl) rfl ?_
                  refine TE_nil0 ?_
                  refine pn_ret ?_
                  (have hk0 : k = 0 := (by have := err1 hc2; by_cases h0 : k = 0; exact h0; (rw [dotOk_iff.2 (by omega)] at this; cases this))); rw [err1 hc2]; exact pn_doneF rfl ⟨dotV 0 0, _, b2, 0, rfl, rfl, load_agg (i := 1) Tryd.isAgg23 Tryd.sizeOf23 rfl (by first | (rw [size_putL]; exact Nat.le_of_ble_eq_true rfl) | exact Nat.le_of_ble_eq_true rfl) rfl, _, _, rfl, rfl, rfl⟩ (.inr ⟨50, _, r2, by simp only [dotD, hd, hd2]; rw [if_pos hk0], by decide, rfl, rfl, hq2, by omega⟩) (fun w h => h.sub (.cons _ (List.sublist_cons_self _ _))) in_src
                · refine pn_skip ?_
                  refine pn_seq ?_
                  refine pn_plain [] rfl ?_
                  refine TE_l rfl rfl trivial rfl (RD.loadA (v := dotV n k) (i := 0) Tryd.isAgg23 Tryd.sizeOf23 rfl rfl (Nat.le_of_ble_eq_true rfl) rfl) rfl ?_
                  refine TE_put (i := 1) rfl Tryd.sizeOf23 trivial rfl rfl rfl rfl rfl rfl (.inl hb2) ?_
                  refine TE_q rfl rfl (RD.assign rfl) rfl ?_
                  refine TE_nil0 ?_
                  refine pn_ret ?_
                  have hok := dotOk_iff.1 (err0 hc2); exact pn_doneF rfl ⟨dotV n k, _, b2, 0, rfl, rfl, load_agg (i := 1) Tryd.isAgg23 Tryd.sizeOf23 rfl (by first | (rw [size_putL]; exact Nat.le_of_ble_eq_true rfl) | exact Nat.le_of_ble_eq_true rfl) rfl, _, _, rfl, rfl, rfl⟩ (.inl ⟨(n, k), r2, _, by simp only [dotD, hd, hd2]; rw [if_neg (by omega)], rfl, rfl, hq2, by omega⟩) (fun w h => h.sub (.cons _ (List.sublist_cons_self _ _))) in_src)
            | (
                first | refine pn_condD rfl (fun hc1 => ?_) (fun hc1 => ?_) | refine pn_condN rfl (fun hc1 => ?_) (fun hc1 => ?_) | refine pn_cond rfl (fun hc1 => ?_) (fun hc1 => ?_)
                · refine pn_seq ?_
                  refine pn_plain [] rfl ?_
                  refine TE_q rfl rfl (RD.build rfl bd_dot0) rfl ?_
                  refine TE_q rfl rfl (RD.move rfl) rfl ?_
                  refine TE_put (i := 0) rfl Tryd.sizeOf23 trivial rfl rfl rfl rfl rfl rfl (.inl hb2) ?_
                  refine TE_q rfl rfl (RD.assign rfl) rfl ?_
                  refine TE_nil0 ?_
                  refine pn_ret ?_
                  exact pn_doneF rfl ⟨dotV 0 0, _, b2, 0, rfl, rfl, load_agg (i := 0) Tryd.isAgg23 Tryd.sizeOf23 rfl (by first | (rw [size_putL]; exact Nat.le_of_ble_eq_true rfl) | exact Nat.le_of_ble_eq_true rfl) rfl, _, _, rfl, rfl, rfl⟩ (.inr ⟨e, _, r2, by simp only [dotD, hd, hd2], he, rfl, rfl, hq2, by omega⟩) (fun w h => h.sub (List.sublist_cons_self _ _)) in_src
                · refine pn_skip ?_
                  refine pn_seq ?_
                  refine pn_plain [1, 3] rfl ?_
                  refine TE_q rfl rfl (RD.move rfl) rfl ?_
                  have hn15 := (numD_ok hd).2.1; have hk32 := (numD_ok hd2).2.1
                  refine TE_q rfl rfl (RD.as (RD.conv Tryd.runUnderlying74 Tryd.runUnderlying3 rfl) (by rw [wrap64_id (by omega) (by omega)])) rfl ?_
                  refine TE_q rfl rfl (RD.move rfl) rfl ?_
                  refine TE_q rfl rfl (RD.as (RD.conv Tryd.runUnderlying74 Tryd.runUnderlying3 rfl) (by rw [wrap64_id (by omega) (by omega)])) rfl ?_
                  refine TE_q rfl rfl (RD.build rfl (bd_dot _ _)) rfl ?_
                  refine TE_alloc rfl Tryd.zeroValue23 trivial rfl fun b7 hb7 => ?_
                  refine TE_put (i := 0) rfl Tryd.sizeOf23 trivial rfl rfl rfl rfl rfl rfl (.inl hb7) ?_
                  refine TE_nil0 ?_
                  refine pn_seq ?_
                  refine pn_seq ?_
                  refine pn_plain [] rfl ?_
                  refine TE_l rfl rfl trivial rfl (RD.loadA (v := dotV n k) (i := 0) Tryd.isAgg23 Tryd.sizeOf23 rfl rfl (Nat.le_of_ble_eq_true rfl) rfl) rfl ?_
                  refine TE_call rfl rfl trivial Tryd.call29 rfl rfl rfl (fun w hs' => c_dotCheck n k w) ?_
                  rintro v33 H1 ⟨rfl, rfl⟩ -
                  refine TE_q rfl rfl (RD.assign rfl) rfl ?_
                  refine TE_nil0 ?_
                  refine pn_seq ?_
                  refine pn_plain [] rfl ?_
                  refine TE_q rfl rfl (RD.move rfl) rfl ?_
                  refine TE_q rfl rfl (RD.neq rfl rfl) rfl ?_
                  refine TE_nil0 ?_
                  first | refine pn_condD rfl (fun hc2 => ?_) (fun hc2 => ?_) | refine pn_condN rfl (fun hc2 => ?_) (fun hc2 => ?_) | refine pn_cond rfl (fun hc2 => ?_) (fun hc2 => ?_)
                  · refine pn_seq ?_
                    refine pn_plain [] rfl ?_
                    refine TE_q rfl rfl (RD.build rfl bd_dot0) rfl ?_
                    refine TE_q rfl rfl (RD.move rfl) rfl ?_
                    refine TE_put (i := 1) rfl Tryd.sizeOf23 trivial rfl rfl rfl rfl rfl rfl (.inl hb2) ?_
                    refine TE_q rfl rfl (RD.assign rfl) rfl ?_
                    refine TE_nil0 ?_
                    refine pn_ret ?_
                    (have hk0 : k = 0 := (by have := err1 hc2; by_cases h0 : k = 0; exact h0; (rw [dotOk_iff.2 (by omega)] at this; cases this))); rw [err1 hc2]; exact pn_doneF rfl ⟨dotV 0 0, _, b2, 0, rfl, rfl, load_agg (i := 1) Tryd.isAgg23 Tryd.sizeOf23 rfl (by first | (rw [size_putL]; exact Nat.le_of_ble_eq_true rfl) | exact Nat.le_of_ble_eq_true rfl) rfl, _, _, rfl, rfl, rfl⟩ (.inr ⟨50, _, r2, by simp only [dotD, hd, hd2]; rw [if_pos hk0], by decide, rfl, rfl, hq2, by omega⟩) (fun w h => h.sub (.cons _ (List.sublist_cons_self _ _))) in_src
                  · refine pn_skip ?_
                    refine pn_seq ?_
                    refine pn_plain [] rfl ?_
                    refine TE_l rfl rfl trivial rfl (RD.loadA (v := dotV n k) (i := 0) Tryd.isAgg23 Tryd.sizeOf23 rfl rfl (Nat.le_of_ble_eq_true rfl) rfl) rfl ?_
                    refine TE_put (i := 1) rfl Tryd.sizeOf23 trivial rfl rfl rfl rfl rfl rfl (.inl hb2) ?_
                    refine TE_q rfl rfl (RD.assign rfl) rfl ?_
                    refine TE_nil0 ?_
                    refine pn_ret ?_
                    have hok := dotOk_iff.1 (err0 hc2); exact pn_doneF rfl ⟨dotV n k, _, b2, 0, rfl, rfl, load_agg (i := 1) Tryd.isAgg23 Tryd.sizeOf23 rfl (by first | (rw [size_putL]; exact Nat.le_of_ble_eq_true rfl) | exact Nat.le_of_ble_eq_true rfl) rfl, _, _, rfl, rfl, rfl⟩ (.inl ⟨(n, k), r2, _, by simp only [dotD, hd, hd2]; rw [if_neg (by omega)], rfl, rfl, hq2, by omega⟩) (fun w h => h.sub (.cons _ (List.sublist_cons_self _ _))) in_src))

end Go.Proofs.YthagkkmbbncclaaDoor
