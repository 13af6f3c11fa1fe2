import Derived.Test.YthagkkmbbncclaaDoorR1s
import Derived.Test.YthagkkmbbncclaaDoorVd
namespace Go.Proofs.YthagkkmbbncclaaDoor
open Go Go.Mv
set_option maxRecDepth 8000
theorem c_r5Check (s c : Int) (w : World) : Calls Tryd.prog 47 #[dotV s c] w (Ret w [] fun v H1 => v = .int .i64 (err (dotOk s c) 50) ∧ H1 = []) := by
  refine fn_enter (args := [_]) Tryd.func47 rfl Tryd.ntmps47 rfl (Hp.nil w) ?_
  refine pn_seq ?_
  refine pn_plain [] rfl ?_
  refine TE_box rfl rfl trivial rfl fun b1 hb1 => ?_
  refine TE_q rfl rfl (RD.assign rfl) rfl ?_
  refine TE_nil0 ?_
  refine pn_seq ?_
  refine pn_seq ?_
  refine pn_plain [] rfl ?_
  refine TE_q rfl rfl (RD.fieldAddr (o := 0) Tryd.runUnderlying23 rfl rfl Tryd.sizeOf3 rfl) rfl ?_
  refine TE_l rfl rfl trivial rfl (RD.load (i := 0) Tryd.isAgg3 rfl rfl rfl) rfl ?_
  refine TE_q rfl rfl (RD.lss rfl rfl) rfl ?_
  refine TE_q rfl rfl (RD.move rfl) rfl ?_
  (first | refine TE_isT ?_ | refine TE_isF ?_ | refine TE_dec (fun h103 => ?_) (fun h103 => ?_) | refine TE_ndec (fun h103 => ?_) (fun h103 => ?_) | refine TE_bool (fun h103 => ?_) (fun h103 => ?_))
  all_goals (first | (refine TE_s rfl rfl rfl rfl rfl ?_) | (refine TE_gq rfl rfl rfl rfl (RD.fieldAddr (o := 0) Tryd.runUnderlying23 rfl rfl Tryd.sizeOf3 rfl) rfl ?_))
  all_goals (first | (refine TE_s rfl rfl rfl rfl rfl ?_) | (refine TE_l rfl rfl ⟨_, rfl, rfl⟩ rfl (RD.load (i := 0) Tryd.isAgg3 rfl rfl rfl) rfl ?_))
  all_goals (first | (refine TE_s rfl rfl rfl rfl rfl ?_) | (refine TE_gq rfl rfl rfl rfl (RD.gtr rfl rfl) rfl ?_))
  all_goals (first | (refine TE_q rfl rfl (RD.pickT rfl rfl) rfl ?_) | (refine TE_q rfl rfl (RD.pickF rfl rfl) rfl ?_))
  all_goals refine TE_q rfl rfl (RD.move rfl) rfl ?_
  all_goals (first | refine TE_isT ?_ | refine TE_isF ?_ | refine TE_dec (fun h108 => ?_) (fun h108 => ?_) | refine TE_ndec (fun h108 => ?_) (fun h108 => ?_) | refine TE_bool (fun h108 => ?_) (fun h108 => ?_))
  all_goals (first | (refine TE_s rfl rfl rfl rfl rfl ?_) | (refine TE_gq rfl rfl rfl rfl (RD.fieldAddr (o := 1) Tryd.runUnderlying23 rfl rfl Tryd.sizeOf3 rfl) rfl ?_))
  all_goals (first | (refine TE_s rfl rfl rfl rfl rfl ?_) | (refine TE_l rfl rfl ⟨_, rfl, rfl⟩ rfl (RD.load (i := 0) Tryd.isAgg3 rfl rfl rfl) rfl ?_))
  all_goals (first | (refine TE_s rfl rfl rfl rfl rfl ?_) | (refine TE_gq rfl rfl rfl rfl (RD.lss rfl rfl) rfl ?_))
  all_goals (first | (refine TE_q rfl rfl (RD.pickT rfl rfl) rfl ?_) | (refine TE_q rfl rfl (RD.pickF rfl rfl) rfl ?_))
  all_goals refine TE_q rfl rfl (RD.move rfl) rfl ?_
  all_goals (first | refine TE_isT ?_ | refine TE_isF ?_ | refine TE_dec (fun h113 => ?_) (fun h113 => ?_) | refine TE_ndec (fun h113 => ?_) (fun h113 => ?_) | refine TE_bool (fun h113 => ?_) (fun h113 => ?_))
  all_goals (first | (refine TE_s rfl rfl rfl rfl rfl ?_) | (refine TE_gq rfl rfl rfl rfl (RD.fieldAddr (o := 1) Tryd.runUnderlying23 rfl rfl Tryd.sizeOf3 rfl) rfl ?_))
  all_goals (first | (refine TE_s rfl rfl rfl rfl rfl ?_) | (refine TE_l rfl rfl ⟨_, rfl, rfl⟩ rfl (RD.load (i := 0) Tryd.isAgg3 rfl rfl rfl) rfl ?_))
  all_goals (first | (refine TE_s rfl rfl rfl rfl rfl ?_) | (refine TE_gq rfl rfl rfl rfl (RD.gtr rfl rfl) rfl ?_))
  all_goals (first | (refine TE_q rfl rfl (RD.pickT rfl rfl) rfl ?_) | (refine TE_q rfl rfl (RD.pickF rfl rfl) rfl ?_))
  all_goals refine TE_nil0 ?_
  all_goals first
    | (
        refine pn_condT rfl ?_
        refine pn_seq ?_
        refine pn_plain [] rfl ?_
        refine TE_q rfl rfl (RD.assign rfl) rfl ?_
        refine TE_nil0 ?_
        refine pn_ret ?_
        first | exact pn_done rfl rfl ⟨by rw [show dotOk s c = true from dotOk_iff.2 (by omega)]; rfl, rfl⟩ (List.nil_sublist _) (by simp) | exact pn_done rfl rfl ⟨by rw [show dotOk s c = false from dotOk_no (by omega)]; rfl, rfl⟩ (List.nil_sublist _) (by simp))
    | (
        refine pn_condF rfl ?_
        refine pn_skip ?_
        refine pn_seq ?_
        refine pn_plain [] rfl ?_
        refine TE_q rfl rfl (RD.assign rfl) rfl ?_
        refine TE_nil0 ?_
        refine pn_ret ?_
        first | exact pn_done rfl rfl ⟨by rw [show dotOk s c = true from dotOk_iff.2 (by omega)]; rfl, rfl⟩ (List.nil_sublist _) (by simp) | exact pn_done rfl rfl ⟨by rw [show dotOk s c = false from dotOk_no (by omega)]; rfl, rfl⟩ (List.nil_sublist _) (by simp))
    | (
        first | refine pn_condD rfl (fun hc0 => ?_) (fun hc0 => ?_) | refine pn_condN rfl (fun hc0 => ?_) (fun hc0 => ?_) | refine pn_cond rfl (fun hc0 => ?_) (fun hc0 => ?_)
        · refine pn_seq ?_
          refine pn_plain [] rfl ?_
          refine TE_q rfl rfl (RD.assign rfl) rfl ?_
          refine TE_nil0 ?_
          refine pn_ret ?_
          first | exact pn_done rfl rfl ⟨by rw [show dotOk s c = true from dotOk_iff.2 (by omega)]; rfl, rfl⟩ (List.nil_sublist _) (by simp) | exact pn_done rfl rfl ⟨by rw [show dotOk s c = false from dotOk_no (by omega)]; rfl, rfl⟩ (List.nil_sublist _) (by simp)
        · refine pn_skip ?_
          refine pn_seq ?_
          refine pn_plain [] rfl ?_
          refine TE_q rfl rfl (RD.assign rfl) rfl ?_
          refine TE_nil0 ?_
          refine pn_ret ?_
          first | exact pn_done rfl rfl ⟨by rw [show dotOk s c = true from dotOk_iff.2 (by omega)]; rfl, rfl⟩ (List.nil_sublist _) (by simp) | exact pn_done rfl rfl ⟨by rw [show dotOk s c = false from dotOk_no (by omega)]; rfl, rfl⟩ (List.nil_sublist _) (by simp))

theorem c_r5Bytes (s c : Int) (w : World) (hd : dotOk s c = true) : Calls Tryd.prog 61 #[dotV s c] w (Ret w [] fun v H1 => RetB 5 v H1 (dotL s c)) := by
  have hd' := dotOk_iff.1 hd
  have h1 := lebL_len64 (n := s.toNat) (by omega)
  have h2 := lebL_len64 (n := c.toNat) (by omega)
  refine fn_enter (args := [_]) Tryd.func61 rfl Tryd.ntmps61 rfl (Hp.nil w) ?_
  refine pn_seq ?_
  refine pn_plain [] rfl ?_
  refine TE_box rfl rfl trivial rfl fun b1 hb1 => ?_
  refine TE_q rfl rfl (RD.assign rfl) rfl ?_
  refine TE_nil0 ?_
  refine pn_seq ?_
  refine pn_plain [2] rfl ?_
  refine TE_q rfl rfl (RD.fieldAddr (o := 0) Tryd.runUnderlying23 rfl rfl Tryd.sizeOf3 rfl) rfl ?_
  refine TE_l rfl rfl trivial rfl (RD.load (i := 0) Tryd.isAgg3 rfl rfl rfl) rfl ?_
  refine TE_q rfl rfl (RD.as (RD.conv Tryd.runUnderlying3 Tryd.runUnderlying74 rfl) (u64_of (by omega) (by omega))) rfl ?_
  refine TE_call rfl rfl trivial Tryd.call74 rfl rfl rfl (fun w hs' => c_rNum s.toNat w (by omega)) ?_
  rintro v7 H3 hr hX3
  refine TE_q rfl rfl (RD.assign rfl) rfl ?_
  refine TE_nil0 ?_
  refine pn_seq ?_
  obtain ⟨st, hok, rfl, rfl⟩ := hr.bld; refine pn_perm ((b1, .cells (dotV s c).cells 23 (0, 0)) :: bldM 5 (lebL s.toNat) st) (fun w h => h.perm List.perm_append_comm) ?_
  refine pn_plain [3] rfl ?_
  refine TE_q rfl rfl (RD.move rfl) rfl ?_
  refine TE_q rfl rfl (RD.fieldAddr (o := 1) Tryd.runUnderlying23 rfl rfl Tryd.sizeOf3 rfl) rfl ?_
  refine TE_l rfl rfl trivial rfl (RD.load (i := 0) Tryd.isAgg3 rfl rfl rfl) rfl ?_
  refine TE_q rfl rfl (RD.as (RD.conv Tryd.runUnderlying3 Tryd.runUnderlying74 rfl) (u64_of (by omega) (by omega))) rfl ?_
  refine TE_call rfl rfl trivial Tryd.call74 rfl rfl rfl (fun w hs' => c_rNum c.toNat w (by omega)) ?_
  rintro v12 H4 hr2 hX8
  refine TE_appendO (st := st) (l := lebL s.toNat) (ys := lebL c.toNat) (H4 ++ [(b1, .cells (dotV s c).cells 23 (0, 0))]) [] (by simp) rfl rfl trivial rfl Tryd.underlying35 elByteR rfl rfl rfl hok (hr2.bytes.mono (fun w h => h.left.left)) (by omega) (fun e he => .inl (hX3 e he)) ?_
  intro st1 hok1 hX1
  refine TE_q rfl rfl (RD.assign rfl) rfl ?_
  refine TE_nil0 ?_
  refine pn_ret ?_
  exact pn_doneF rfl ⟨_, _, rfl, rfl, rfl⟩ (RetB.of_bld hok1) (fun w h => h.right.left) (where_ hX1)

set_option maxHeartbeats 2000000 in

theorem c_r5Dec (HX : Mem) (s : Nat) (sv : Value) (ys : List UInt8) (w : World) (hb : Rdb HX sv ys) (hlen : ys.length ≤ 2199023255552) (hw : Hp (rsrcM s sv HX) w) : Calls Tryd.prog 42 #[.pointer (some ⟨s, 0, none⟩)] w (Ret w (keys (rsrcM s sv HX)) (RReads HX s (fun d : Nat × Nat => dotV d.1 d.2) (dotV 0 0) ys (dotD ys))) := by
  refine fn_enter (args := [_]) Tryd.func42 rfl Tryd.ntmps42 rfl hw ?_
  refine pn_seq ?_
  refine pn_plain [] rfl ?_
  refine TE_alloc rfl Tryd.zeroValue23 trivial rfl fun b2 hb2 => ?_
  refine TE_q rfl rfl (RD.assign rfl) rfl ?_
  refine TE_nil0 ?_
  refine pn_seq ?_
  refine pn_plain [] rfl ?_
  refine TE_q rfl rfl (RD.move rfl) rfl ?_
  refine TE_callT [_] (rsrcM s sv HX) rfl rfl rfl trivial Tryd.call45 rfl rfl rfl (fun e he => .inr (mem_keys.2 ⟨e, he, rfl⟩)) (fun w hs' => c_rsNum HX s 15 sv ys w hb (by omega) (hs'.hp.left.right (A := [_]))) ?_
  rintro v10 H1 (⟨n, r, v1, hd, rfl, rfl, hq1, hl1⟩ | ⟨e, v1, r, hd, he, rfl, rfl, hq1, hl1⟩) hX1
  · refine TE_q rfl rfl (RD.move rfl) rfl ?_
    refine TE_q rfl rfl (RD.extract rfl rfl) rfl ?_
    refine TE_q rfl rfl (RD.extract rfl rfl) rfl ?_
    refine TE_q rfl rfl (RD.assign rfl) rfl ?_
    refine TE_q rfl rfl (RD.assign rfl) rfl ?_
    refine TE_nil0 ?_
    refine pn_seq ?_
    refine pn_seq ?_
    refine pn_plain [] rfl ?_
    refine TE_q rfl rfl (RD.move rfl) rfl ?_
    refine TE_q rfl rfl (RD.neq rfl rfl) rfl ?_
    refine TE_nil0 ?_
    refine pn_condF rfl ?_
    refine pn_skip ?_
    refine pn_seq ?_
    refine pn_plain [] rfl ?_
    refine TE_q rfl rfl (RD.move rfl) rfl ?_
    refine TE_callT [_] (rsrcM s v1 HX) rfl rfl rfl trivial Tryd.call45 rfl rfl rfl hX1 (fun w hs' => c_rsNum HX s 4294967295 v1 r w hq1 (by omega) (hs'.hp.left.right (A := [_]))) ?_
    rintro v19 H1 (⟨k, r2, v2, hd2, rfl, rfl, hq2, hl2⟩ | ⟨e, v2, r2, hd2, he, rfl, rfl, hq2, hl2⟩) hX2
    · refine TE_q rfl rfl (RD.move rfl) rfl ?_
      refine TE_q rfl rfl (RD.extract rfl rfl) rfl ?_
      refine TE_q rfl rfl (RD.extract rfl rfl) rfl ?_
      refine TE_q rfl rfl (RD.assign rfl) rfl ?_
      refine TE_q rfl rfl (RD.assign rfl) rfl ?_
      refine TE_nil0 ?_
      refine pn_seq ?_
      refine pn_seq ?_
      refine pn_plain [] rfl ?_
      refine TE_q rfl rfl (RD.move rfl) rfl ?_
      refine TE_q rfl rfl (RD.neq rfl rfl) rfl ?_
      refine TE_nil0 ?_
      refine pn_condF rfl ?_
      refine pn_skip ?_
      refine pn_seq ?_
      refine pn_seq ?_
      refine pn_plain [] rfl ?_
      refine TE_q rfl rfl (RD.move rfl) rfl ?_
      have hn15 := (numD_ok hd).2.1; have hk32 := (numD_ok hd2).2.1
      refine TE_q rfl rfl (RD.eql rfl rfl) rfl ?_
      refine TE_nil0 ?_
      first | refine pn_condD rfl (fun hc2 => ?_) (fun hc2 => ?_) | refine pn_condN rfl (fun hc2 => ?_) (fun hc2 => ?_) | refine pn_cond rfl (fun hc2 => ?_) (fun hc2 => ?_)
      · refine pn_seq ?_
        refine pn_plain [] rfl ?_
        refine TE_q rfl rfl (RD.build rfl bd_dot0) rfl ?_
        refine TE_put (i := 0) rfl Tryd.sizeOf23 trivial rfl rfl rfl rfl rfl rfl (.inl hb2) ?_
        refine TE_q rfl rfl (RD.assign rfl) rfl ?_
        refine TE_nil0 ?_
        refine pn_ret ?_
        (have hk0 : k = 0 := (by omega)); exact pn_doneF rfl ⟨dotV 0 0, _, b2, 0, rfl, rfl, load_agg (i := 0) Tryd.isAgg23 Tryd.sizeOf23 rfl (by first | (rw [size_putL]; exact Nat.le_of_ble_eq_true rfl) | exact Nat.le_of_ble_eq_true rfl) rfl, _, _, rfl, rfl, rfl⟩ (.inr ⟨50, _, r2, by simp only [dotD, hd, hd2]; rw [if_pos hk0], by decide, rfl, rfl, hq2, by omega⟩) (fun w h => h.sub (List.sublist_cons_self _ _)) in_rsrc
      · refine pn_skip ?_
        refine pn_seq ?_
        refine pn_plain [1, 3] rfl ?_
        refine TE_q rfl rfl (RD.move rfl) rfl ?_
        refine TE_q rfl rfl (RD.as (RD.conv Tryd.runUnderlying74 Tryd.runUnderlying3 rfl) (by rw [wrap64_id (by omega) (by omega)])) rfl ?_
        refine TE_q rfl rfl (RD.move rfl) rfl ?_
        refine TE_q rfl rfl (RD.as (RD.conv Tryd.runUnderlying74 Tryd.runUnderlying3 rfl) (by rw [wrap64_id (by omega) (by omega)])) rfl ?_
        refine TE_q rfl rfl (RD.build rfl (bd_dot _ _)) rfl ?_
        refine TE_put (i := 0) rfl Tryd.sizeOf23 trivial rfl rfl rfl rfl rfl rfl (.inl hb2) ?_
        refine TE_q rfl rfl (RD.assign rfl) rfl ?_
        refine TE_nil0 ?_
        refine pn_ret ?_
        exact pn_doneF rfl ⟨dotV n k, _, b2, 0, rfl, rfl, load_agg (i := 0) Tryd.isAgg23 Tryd.sizeOf23 rfl (by first | (rw [size_putL]; exact Nat.le_of_ble_eq_true rfl) | exact Nat.le_of_ble_eq_true rfl) rfl, _, _, rfl, rfl, rfl⟩ (.inl ⟨(n, k), r2, _, by simp only [dotD, hd, hd2]; rw [if_neg (by omega)], rfl, rfl, hq2, by omega⟩) (fun w h => h.sub (List.sublist_cons_self _ _)) in_rsrc
    · refine TE_q rfl rfl (RD.move rfl) rfl ?_
      refine TE_q rfl rfl (RD.extract rfl rfl) rfl ?_
      refine TE_q rfl rfl (RD.extract rfl rfl) rfl ?_
      refine TE_q rfl rfl (RD.assign rfl) rfl ?_
      refine TE_q rfl rfl (RD.assign rfl) rfl ?_
      refine TE_nil0 ?_
      refine pn_seq ?_
      refine pn_seq ?_
      refine pn_plain [] rfl ?_
      refine TE_q rfl rfl (RD.move rfl) rfl ?_
      refine TE_q rfl rfl (RD.as (v := .bool true) (RD.neq rfl rfl) (by rw [decide_eq_false he]; rfl)) rfl ?_
      refine TE_nil0 ?_
      refine pn_condT rfl ?_
      refine pn_seq ?_
      refine pn_plain [] rfl ?_
      refine TE_q rfl rfl (RD.build rfl bd_dot0) rfl ?_
      refine TE_q rfl rfl (RD.move rfl) rfl ?_
      refine TE_put (i := 0) rfl Tryd.sizeOf23 trivial rfl rfl rfl rfl rfl rfl (.inl hb2) ?_
      refine TE_q rfl rfl (RD.assign rfl) rfl ?_
      refine TE_nil0 ?_
      refine pn_ret ?_
      exact pn_doneF rfl ⟨dotV 0 0, _, b2, 0, rfl, rfl, load_agg (i := 0) Tryd.isAgg23 Tryd.sizeOf23 rfl (by first | (rw [size_putL]; exact Nat.le_of_ble_eq_true rfl) | exact Nat.le_of_ble_eq_true rfl) rfl, _, _, rfl, rfl, rfl⟩ (.inr ⟨e, _, r2, by simp only [dotD, hd, hd2], he, rfl, rfl, hq2, by omega⟩) (fun w h => h.sub (List.sublist_cons_self _ _)) in_rsrc
  · refine TE_q rfl rfl (RD.move rfl) rfl ?_
    refine TE_q rfl rfl (RD.extract rfl rfl) rfl ?_
    refine TE_q rfl rfl (RD.extract rfl rfl) rfl ?_
    refine TE_q rfl rfl (RD.assign rfl) rfl ?_
    refine TE_q rfl rfl (RD.assign rfl) rfl ?_
    refine TE_nil0 ?_
    refine pn_seq ?_
    refine pn_seq ?_
    refine pn_plain [] rfl ?_
    refine TE_q rfl rfl (RD.move rfl) rfl ?_
    refine TE_q rfl rfl (RD.as (v := .bool true) (RD.neq rfl rfl) (by rw [decide_eq_false he]; rfl)) rfl ?_
    refine TE_nil0 ?_
    refine pn_condT rfl ?_
    refine pn_seq ?_
    refine pn_plain [] rfl ?_
    refine TE_q rfl rfl (RD.build rfl bd_dot0) rfl ?_
    refine TE_q rfl rfl (RD.move rfl) rfl ?_
    refine TE_put (i := 0) rfl Tryd.sizeOf23 trivial rfl rfl rfl rfl rfl rfl (.inl hb2) ?_
    refine TE_q rfl rfl (RD.assign rfl) rfl ?_
    refine TE_nil0 ?_
    refine pn_ret ?_
    exact pn_doneF rfl ⟨dotV 0 0, _, b2, 0, rfl, rfl, load_agg (i := 0) Tryd.isAgg23 Tryd.sizeOf23 rfl (by first | (rw [size_putL]; exact Nat.le_of_ble_eq_true rfl) | exact Nat.le_of_ble_eq_true rfl) rfl, _, _, rfl, rfl, rfl⟩ (.inr ⟨e, _, r, by simp only [dotD, hd], he, rfl, rfl, hq1, hl1⟩) (fun w h => h.sub (List.sublist_cons_self _ _)) in_rsrc

end Go.Proofs.YthagkkmbbncclaaDoor
