import Derived.Test.YtaakjgmehbbgfaaGreatDoorSat
namespace Go.Proofs.YtaakjgmehbbgfaaGreatDoor
open Go Go.Mv
set_option maxRecDepth 8000
def loadPB (l : List Rec) (i : Nat) (x : Rec) : Bool := recOkB x && decide (x.ref = refL l) && (decide (i = 0) || decide (dlt (gt l (i - 1)) x)) && l.all fun y => !outdoesB x y
def loadB (l : List Rec) : Bool := !l.isEmpty && (List.range l.length).all fun i => loadPB l i (gt l i)
theorem loadOk_iff {l : List Rec} : loadOk l ↔ loadB l = true := by
  unfold loadOk loadB
  simp only [Bool.and_eq_true, Bool.not_eq_true', List.isEmpty_eq_false_iff, List.all_eq_true, List.mem_range]
  refine and_congr_right fun _ => ⟨fun h i hi => ?_, fun h i x hx => ?_⟩
  · obtain ⟨h1, h2, h3, h4⟩ := h i _ (gt_some hi)
    simp only [loadPB, Bool.and_eq_true, Bool.or_eq_true, decide_eq_true_eq, List.all_eq_true, Bool.not_eq_true']
    refine ⟨⟨⟨h1, h2⟩, ?_⟩, h4⟩
    rcases Nat.eq_zero_or_pos i with h0 | h0
    · exact .inl h0
    · exact .inr (h3 (i - 1) _ (by omega) (gt_some (by omega)))
  · have hi := (List.getElem?_eq_some_iff.1 hx).1
    have := h i hi
    rw [gt_eq hx] at this
    simp only [loadPB, Bool.and_eq_true, Bool.or_eq_true, decide_eq_true_eq, List.all_eq_true, Bool.not_eq_true'] at this
    obtain ⟨⟨⟨h1, h2⟩, h3⟩, h4⟩ := this
    refine ⟨h1, h2, fun j y hj hy => ?_, h4⟩
    subst hj
    rcases h3 with h3 | h3
    · omega
    · rw [Nat.add_sub_cancel, gt_eq hy] at h3; exact h3

theorem c_noneN  (w : World) (hH : Hp [] w) : Calls Tryz.prog 50 #[.pointer none] w (Ret w [] fun v H1 => v = .bool true ∧ H1 = []) := by
  refine fn_enter (args := [_]) Tryz.func50 rfl Tryz.ntmps50 rfl hH ?_
  refine pn_seq ?_
  refine pn_plain [] rfl ?_
  refine TE_q rfl rfl (RD.assign rfl) rfl ?_
  refine TE_nil0 ?_
  refine pn_seq ?_
  refine pn_plain [] rfl ?_
  refine TE_q rfl rfl (RD.move rfl) rfl ?_
  refine TE_q rfl rfl (RD.as (v := .bool true) (RD.ptr_eql_nil Tryz.runUnderlying24 rfl rfl) rfl) rfl ?_
  refine TE_q rfl rfl (RD.move rfl) rfl ?_
  refine TE_s rfl rfl rfl rfl rfl ?_
  refine TE_s rfl rfl rfl rfl rfl ?_
  refine TE_s rfl rfl rfl rfl rfl ?_
  refine TE_s rfl rfl rfl rfl rfl ?_
  refine TE_s rfl rfl rfl rfl rfl ?_
  refine TE_q rfl rfl (RD.pickT rfl rfl) rfl ?_
  refine TE_q rfl rfl (RD.assign rfl) rfl ?_
  refine TE_nil0 ?_
  refine pn_ret ?_
  exact pn_doneS [] rfl rfl ⟨rfl, rfl⟩ (fun _ => Nat.zero_le _) (fun _ he => nomatch he)

theorem c_noneZ (bs : Nat) (w : World) (hH : Hp [(bs, .cells #[.string ⟨#[]⟩, .slice none 0 0] 56 (0, 0))] w) : Calls Tryz.prog 50 #[.pointer (some ⟨bs, 0, none⟩)] w (Ret w [] fun v H1 => v = .bool true ∧ H1 = []) := by
  refine fn_enter (args := [_]) Tryz.func50 rfl Tryz.ntmps50 rfl hH ?_
  refine pn_seq ?_
  refine pn_plain [] rfl ?_
  refine TE_q rfl rfl (RD.assign rfl) rfl ?_
  refine TE_nil0 ?_
  refine pn_seq ?_
  refine pn_plain [] rfl ?_
  refine TE_q rfl rfl (RD.move rfl) rfl ?_
  refine TE_q rfl rfl (RD.as (v := .bool false) (RD.ptr_eql_nil Tryz.runUnderlying24 rfl rfl) rfl) rfl ?_
  refine TE_q rfl rfl (RD.move rfl) rfl ?_
  refine TE_gq rfl rfl rfl rfl (RD.move rfl) rfl ?_
  refine TE_gq rfl rfl rfl rfl (RD.nilCheckP rfl) rfl ?_
  refine TE_gq rfl rfl rfl rfl (RD.fieldAddr (o := 0) Tryz.runUnderlying56 rfl rfl Tryz.sizeOf9 rfl) rfl ?_
  refine TE_l rfl rfl ⟨_, rfl, rfl⟩ rfl (RD.load (i := 0) Tryz.isAgg9 rfl rfl rfl) rfl ?_
  refine TE_gq rfl rfl rfl rfl (RD.as (v := .bool true) (RD.eql_string rfl rfl) (congrArg Value.bool (by decide))) rfl ?_
  refine TE_q rfl rfl (RD.pickF rfl rfl) rfl ?_
  refine TE_q rfl rfl (RD.assign rfl) rfl ?_
  refine TE_nil0 ?_
  refine pn_ret ?_
  exact pn_doneS [] rfl rfl ⟨rfl, rfl⟩ (fun _ => Nat.zero_le _) (fun _ he => nomatch he)

theorem c_refNN  (w : World) (hH : Hp [] w) : Calls Tryz.prog 24 #[.pointer none] w (Ret w [] fun v H1 => v = .string ⟨#[]⟩ ∧ H1 = []) := by
  refine fn_enter (args := [_]) Tryz.func24 rfl Tryz.ntmps24 rfl hH ?_
  refine pn_seq ?_
  refine pn_plain [] rfl ?_
  refine TE_q rfl rfl (RD.assign rfl) rfl ?_
  refine TE_nil0 ?_
  refine pn_seq ?_
  refine pn_seq ?_
  refine pn_plain [] rfl ?_
  refine TE_q rfl rfl (RD.move rfl) rfl ?_
  refine TE_callG _ [] rfl rfl trivial Tryz.call50 rfl rfl rfl (fun w hw => c_noneN  w  (hw.sp (fun a => by simp -failIfUnchanged <;> omega))) (fun a => by simp -failIfUnchanged <;> omega) ?_
  rintro v1 H2 ⟨rfl, rfl⟩ -
  refine TE_nil0 ?_
  refine pn_condT rfl ?_
  refine pn_seq ?_
  refine pn_plain [] rfl ?_
  refine TE_q rfl rfl (RD.assign rfl) rfl ?_
  refine TE_nil0 ?_
  refine pn_ret ?_
  exact pn_doneS [] rfl rfl ⟨rfl, rfl⟩ (fun _ => Nat.zero_le _) (fun _ he => nomatch he)

theorem c_allNN  (w : World) (hH : Hp [] w) : Calls Tryz.prog 17 #[.pointer none] w (Ret w [] fun v H1 => v = .slice none 0 0 ∧ H1 = []) := by
  refine fn_enter (args := [_]) Tryz.func17 rfl Tryz.ntmps17 rfl hH ?_
  refine pn_seq ?_
  refine pn_plain [] rfl ?_
  refine TE_q rfl rfl (RD.assign rfl) rfl ?_
  refine TE_nil0 ?_
  refine pn_seq ?_
  refine pn_seq ?_
  refine pn_plain [] rfl ?_
  refine TE_q rfl rfl (RD.move rfl) rfl ?_
  refine TE_callG _ [] rfl rfl trivial Tryz.call50 rfl rfl rfl (fun w hw => c_noneN  w  (hw.sp (fun a => by simp -failIfUnchanged <;> omega))) (fun a => by simp -failIfUnchanged <;> omega) ?_
  rintro v1 H2 ⟨rfl, rfl⟩ -
  refine TE_nil0 ?_
  refine pn_condT rfl ?_
  refine pn_seq ?_
  refine pn_plain [] rfl ?_
  refine TE_q rfl rfl (RD.assign rfl) rfl ?_
  refine TE_nil0 ?_
  refine pn_ret ?_
  exact pn_doneS [] rfl rfl ⟨rfl, rfl⟩ (fun _ => Nat.zero_le _) (fun _ he => nomatch he)

theorem c_allNZ (bs : Nat) (w : World) (hH : Hp [(bs, .cells #[.string ⟨#[]⟩, .slice none 0 0] 56 (0, 0))] w) : Calls Tryz.prog 17 #[.pointer (some ⟨bs, 0, none⟩)] w (Ret w [] fun v H1 => v = .slice none 0 0 ∧ H1 = []) := by
  refine fn_enter (args := [_]) Tryz.func17 rfl Tryz.ntmps17 rfl hH ?_
  refine pn_seq ?_
  refine pn_plain [] rfl ?_
  refine TE_q rfl rfl (RD.assign rfl) rfl ?_
  refine TE_nil0 ?_
  refine pn_seq ?_
  refine pn_seq ?_
  refine pn_plain [] rfl ?_
  refine TE_q rfl rfl (RD.move rfl) rfl ?_
  refine TE_callG _ [(bs, .cells #[.string ⟨#[]⟩, .slice none 0 0] 56 (0, 0))] rfl rfl trivial Tryz.call50 rfl rfl rfl (fun w hw => c_noneZ bs w  (hw.sp (fun a => by simp -failIfUnchanged <;> omega))) (fun a => by simp -failIfUnchanged <;> omega) ?_
  rintro v1 H2 ⟨rfl, rfl⟩ -
  refine TE_nil0 ?_
  refine pn_condT rfl ?_
  refine pn_seq ?_
  refine pn_plainG [] [] rfl (fun a => by simp -failIfUnchanged <;> omega) ?_
  refine TE_q rfl rfl (RD.assign rfl) rfl ?_
  refine TE_nil0 ?_
  refine pn_ret ?_
  exact pn_doneS [] rfl rfl ⟨rfl, rfl⟩ (fun _ => Nat.zero_le _) (fun _ he => nomatch he)

theorem c_copyNZ (bs : Nat) (w : World) (hH : Hp [(bs, .cells #[.string ⟨#[]⟩, .slice none 0 0] 56 (0, 0))] w) : Calls Tryz.prog 25 #[.pointer (some ⟨bs, 0, none⟩)] w (Ret w [] fun v H1 => v = .pointer none ∧ H1 = []) := by
  refine fn_enter (args := [_]) Tryz.func25 rfl Tryz.ntmps25 rfl hH ?_
  refine pn_seq ?_
  refine pn_plain [] rfl ?_
  refine TE_q rfl rfl (RD.assign rfl) rfl ?_
  refine TE_nil0 ?_
  refine pn_seq ?_
  refine pn_seq ?_
  refine pn_plain [] rfl ?_
  refine TE_q rfl rfl (RD.move rfl) rfl ?_
  refine TE_callG _ [(bs, .cells #[.string ⟨#[]⟩, .slice none 0 0] 56 (0, 0))] rfl rfl trivial Tryz.call50 rfl rfl rfl (fun w hw => c_noneZ bs w  (hw.sp (fun a => by simp -failIfUnchanged <;> omega))) (fun a => by simp -failIfUnchanged <;> omega) ?_
  rintro v1 H2 ⟨rfl, rfl⟩ -
  refine TE_nil0 ?_
  refine pn_condT rfl ?_
  refine pn_seq ?_
  refine pn_plainG [] [] rfl (fun a => by simp -failIfUnchanged <;> omega) ?_
  refine TE_q rfl rfl (RD.assign rfl) rfl ?_
  refine TE_nil0 ?_
  refine pn_ret ?_
  exact pn_doneS [] rfl rfl ⟨rfl, rfl⟩ (fun _ => Nat.zero_le _) (fun _ he => nomatch he)

theorem c_applyNN (r : Rec) (w : World) (hH : Hp [] w) : Calls Tryz.prog 16 #[.pointer none, recV r] w (Ret w [] fun v H1 => v = .tuple #[.int .i64 0, .int .i64 1] ∧ H1 = []) := by
  refine fn_enter (args := [_, _]) Tryz.func16 rfl Tryz.ntmps16 rfl hH ?_
  refine pn_seq ?_
  refine pn_plain [] rfl ?_
  refine TE_boxC (recV r).cells rfl rfl rfl trivial rfl fun b3 hb3 => ?_
  refine TE_q rfl rfl (RD.assign rfl) rfl ?_
  refine TE_q rfl rfl (RD.assign rfl) rfl ?_
  refine TE_nil0 ?_
  refine pn_seq ?_
  refine pn_plain [] rfl ?_
  refine TE_q rfl rfl (RD.makeFunc rfl rfl) rfl ?_
  refine TE_q rfl rfl (RD.assign rfl) rfl ?_
  refine TE_nil0 ?_
  refine pn_seq ?_
  refine pn_block ?_
  refine pn_seq ?_
  refine pn_plain [] rfl ?_
  refine TE_q rfl rfl (RD.move rfl) rfl ?_
  refine TE_callG _ [] rfl rfl trivial Tryz.call50 rfl rfl rfl (fun w hw => c_noneN  w  (hw.sp (fun a => by simp -failIfUnchanged <;> omega))) (fun a => by simp -failIfUnchanged <;> omega) ?_
  rintro v1 H2 ⟨rfl, rfl⟩ -
  refine TE_q rfl rfl (RD.assign rfl) rfl ?_
  refine TE_nil0 ?_
  refine pn_condT rfl ?_
  refine pn_seq ?_
  refine pn_plainG [] [] rfl (fun a => by simp -failIfUnchanged <;> omega) ?_
  refine TE_q rfl rfl (RD.assign rfl) rfl ?_
  refine TE_q rfl rfl (RD.assign rfl) rfl ?_
  refine TE_nil0 ?_
  refine pn_ret ?_
  exact pn_doneS [] rfl rfl ⟨rfl, rfl⟩ (fun _ => Nat.zero_le _) (fun _ he => nomatch he)

theorem c_applyNZ (bs : Nat) (r : Rec) (w : World) (hH : Hp [(bs, .cells #[.string ⟨#[]⟩, .slice none 0 0] 56 (0, 0))] w) : Calls Tryz.prog 16 #[.pointer (some ⟨bs, 0, none⟩), recV r] w (Ret w [] fun v H1 => v = .tuple #[.int .i64 0, .int .i64 1] ∧ H1 = []) := by
  refine fn_enter (args := [_, _]) Tryz.func16 rfl Tryz.ntmps16 rfl hH ?_
  refine pn_seq ?_
  refine pn_plain [] rfl ?_
  refine TE_boxC (recV r).cells rfl rfl rfl trivial rfl fun b3 hb3 => ?_
  refine TE_q rfl rfl (RD.assign rfl) rfl ?_
  refine TE_q rfl rfl (RD.assign rfl) rfl ?_
  refine TE_nil0 ?_
  refine pn_seq ?_
  refine pn_plain [] rfl ?_
  refine TE_q rfl rfl (RD.makeFunc rfl rfl) rfl ?_
  refine TE_q rfl rfl (RD.assign rfl) rfl ?_
  refine TE_nil0 ?_
  refine pn_seq ?_
  refine pn_block ?_
  refine pn_seq ?_
  refine pn_plain [] rfl ?_
  refine TE_q rfl rfl (RD.move rfl) rfl ?_
  refine TE_callG _ [(bs, .cells #[.string ⟨#[]⟩, .slice none 0 0] 56 (0, 0))] rfl rfl trivial Tryz.call50 rfl rfl rfl (fun w hw => c_noneZ bs w  (hw.sp (fun a => by simp -failIfUnchanged <;> omega))) (fun a => by simp -failIfUnchanged <;> omega) ?_
  rintro v1 H2 ⟨rfl, rfl⟩ -
  refine TE_q rfl rfl (RD.assign rfl) rfl ?_
  refine TE_nil0 ?_
  refine pn_condT rfl ?_
  refine pn_seq ?_
  refine pn_plainG [] [] rfl (fun a => by simp -failIfUnchanged <;> omega) ?_
  refine TE_q rfl rfl (RD.assign rfl) rfl ?_
  refine TE_q rfl rfl (RD.assign rfl) rfl ?_
  refine TE_nil0 ?_
  refine pn_ret ?_
  exact pn_doneS [] rfl rfl ⟨rfl, rfl⟩ (fun _ => Nat.zero_le _) (fun _ he => nomatch he)

theorem c_aliveNN  (w : World) (hH : Hp [] w) : Calls Tryz.prog 23 #[.pointer none] w (Ret w [] fun v H1 => ∃ st, BldOk 52 (recC) ([] : List Rec) st ∧ v = bldVx ([] : List Rec) st ∧ H1 = bldMx 40 (recC) ([] : List Rec) st) := by
  refine fn_enter (args := [_]) Tryz.func23 rfl Tryz.ntmps23 rfl hH ?_
  refine pn_seq ?_
  refine pn_plain [] rfl ?_
  refine TE_q rfl rfl (RD.assign rfl) rfl ?_
  refine TE_nil0 ?_
  refine pn_seq ?_
  refine pn_plain [] rfl ?_
  refine TE_q rfl rfl (RD.move rfl) rfl ?_
  refine TE_callG _ [] rfl rfl trivial Tryz.call17 rfl rfl rfl (fun w hw => c_allNN  w  (hw.sp (fun a => by simp -failIfUnchanged <;> omega))) (fun a => by simp -failIfUnchanged <;> omega) ?_
  rintro v1 H2 ⟨rfl, rfl⟩ -
  refine TE_callG (fun v H1 => ∃ st, BldOk 52 (recC) ([] : List Rec) st ∧ v = bldVx ([] : List Rec) st ∧ H1 = bldMx 40 (recC) ([] : List Rec) st) [] rfl rfl trivial Tryz.call59 rfl rfl rfl (fun w hw => c_deleteF (fun r => !r.has) 60 #[] #[] Tryz.call60 [] (fun x W _ _ => c_alive1 x W) [] none w BldOk.nil (by simp) (by decide) (hw.sp (fun a => by simp -failIfUnchanged <;> omega))) (fun a => by simp -failIfUnchanged <;> omega) ?_
  rintro v7 H8 ⟨st3, hbo4, rfl, rfl⟩ hX5
  have hRD6 : Rdx 52 (recC) (bldMx 40 (recC) ([] : List Rec) st3) (bldVx ([] : List Rec) st3) ([] : List Rec) := hbo4.rdx (u := 40) recC_len
  refine TE_sp (bldMx 40 (recC) ([] : List Rec) st3) (fun a => by simp -failIfUnchanged <;> omega) ?_
  refine TE_q rfl rfl (RD.assign rfl) rfl ?_
  refine TE_nil0 ?_
  refine pn_ret ?_
  exact pn_doneS (bldMx 40 (recC) ([] : List Rec) st3) rfl rfl ⟨st3, hbo4, rfl, rfl⟩ (fun a => by simp -failIfUnchanged <;> omega) (ownN hX5)

theorem c_aliveNZ (bs : Nat) (w : World) (hH : Hp [(bs, .cells #[.string ⟨#[]⟩, .slice none 0 0] 56 (0, 0))] w) : Calls Tryz.prog 23 #[.pointer (some ⟨bs, 0, none⟩)] w (Ret w [] fun v H1 => ∃ st, BldOk 52 (recC) ([] : List Rec) st ∧ v = bldVx ([] : List Rec) st ∧ H1 = bldMx 40 (recC) ([] : List Rec) st) := by
  refine fn_enter (args := [_]) Tryz.func23 rfl Tryz.ntmps23 rfl hH ?_
  refine pn_seq ?_
  refine pn_plain [] rfl ?_
  refine TE_q rfl rfl (RD.assign rfl) rfl ?_
  refine TE_nil0 ?_
  refine pn_seq ?_
  refine pn_plain [] rfl ?_
  refine TE_q rfl rfl (RD.move rfl) rfl ?_
  refine TE_callG _ [(bs, .cells #[.string ⟨#[]⟩, .slice none 0 0] 56 (0, 0))] rfl rfl trivial Tryz.call17 rfl rfl rfl (fun w hw => c_allNZ bs w  (hw.sp (fun a => by simp -failIfUnchanged <;> omega))) (fun a => by simp -failIfUnchanged <;> omega) ?_
  rintro v1 H2 ⟨rfl, rfl⟩ -
  refine TE_callG (fun v H1 => ∃ st, BldOk 52 (recC) ([] : List Rec) st ∧ v = bldVx ([] : List Rec) st ∧ H1 = bldMx 40 (recC) ([] : List Rec) st) [] rfl rfl trivial Tryz.call59 rfl rfl rfl (fun w hw => c_deleteF (fun r => !r.has) 60 #[] #[] Tryz.call60 [] (fun x W _ _ => c_alive1 x W) [] none w BldOk.nil (by simp) (by decide) (hw.sp (fun a => by simp -failIfUnchanged <;> omega))) (fun a => by simp -failIfUnchanged <;> omega) ?_
  rintro v7 H8 ⟨st3, hbo4, rfl, rfl⟩ hX5
  have hRD6 : Rdx 52 (recC) (bldMx 40 (recC) ([] : List Rec) st3) (bldVx ([] : List Rec) st3) ([] : List Rec) := hbo4.rdx (u := 40) recC_len
  refine TE_sp ((bs, .cells #[.string ⟨#[]⟩, .slice none 0 0] 56 (0, 0)) :: (bldMx 40 (recC) ([] : List Rec) st3)) (fun a => by simp -failIfUnchanged <;> omega) ?_
  refine TE_q rfl rfl (RD.assign rfl) rfl ?_
  refine TE_nil0 ?_
  refine pn_ret ?_
  exact pn_doneS (bldMx 40 (recC) ([] : List Rec) st3) rfl rfl ⟨st3, hbo4, rfl, rfl⟩ (fun a => by simp -failIfUnchanged <;> omega) (ownN hX5)

theorem c_tipsNN  (w : World) (hH : Hp [] w) : Calls Tryz.prog 19 #[.pointer none] w (Ret w [] fun v H1 => ∃ st, BldOk 32 (idC) ([] : List (Nat → Int)) st ∧ v = bldVx ([] : List (Nat → Int)) st ∧ H1 = bldMx 38 (idC) ([] : List (Nat → Int)) st) := by
  refine fn_enter (args := [_]) Tryz.func19 rfl Tryz.ntmps19 rfl hH ?_
  refine pn_seq ?_
  refine pn_plain [] rfl ?_
  refine TE_q rfl rfl (RD.assign rfl) rfl ?_
  refine TE_nil0 ?_
  refine pn_seq ?_
  refine pn_plain [] rfl ?_
  refine TE_q rfl rfl (RD.assign rfl) rfl ?_
  refine TE_nil0 ?_
  refine pn_seq ?_
  refine pn_seq ?_
  refine pn_plain [2] rfl ?_
  refine TE_q rfl rfl (RD.move rfl) rfl ?_
  refine TE_callG _ [] rfl rfl trivial Tryz.call23 rfl rfl rfl (fun w hw => c_aliveNN  w  (hw.sp (fun a => by simp -failIfUnchanged <;> omega))) (fun a => by simp -failIfUnchanged <;> omega) ?_
  rintro v5 H6 ⟨st1, hbo2, rfl, rfl⟩ hX3
  have hRD4 : Rdx 52 (recC) (bldMx 40 (recC) ([] : List Rec) st1) (bldVx ([] : List Rec) st1) ([] : List Rec) := hbo2.rdx (u := 40) recC_len
  refine TE_sp (bldMx 40 (recC) ([] : List Rec) st1) (fun a => by simp -failIfUnchanged <;> omega) ?_
  refine TE_q rfl rfl (RD.as (v := .int .i64 0) (RD.lenX Tryz.runUnderlying22 rfl hRD4) rfl) rfl ?_
  refine TE_q rfl rfl (RD.move rfl) rfl ?_
  refine TE_nil0 ?_
  refine pn_block ?_
  refine pn_loopS (σ := Unit) (fun q => [(7, bldVx ([] : List Rec) st1), (8, .int .i64 0), (3, .slice none 0 0), (9, .int .i64 0)]) (fun q => (bldMx 40 (recC) ([] : List Rec) st1)) (fun q => True) (fun q => 0) () trivial ⟨rfl, rfl, rfl, rfl, trivial⟩ (fun a => by simp -failIfUnchanged <;> omega) ?_
  rintro _ -
  refine pn_seq ?_
  refine pn_plain [] rfl ?_
  refine TE_q rfl rfl (RD.as (v := .bool false) (RD.lss rfl rfl) rfl) rfl ?_
  refine TE_nil0 ?_
  refine pn_seq ?_
  refine pn_condF rfl ?_
  refine pn_exit ?_
  refine pn_seq ?_
  refine pn_plainG [] [] rfl (fun a => by simp -failIfUnchanged <;> omega) ?_
  refine TE_q rfl rfl (RD.move rfl) rfl ?_
  refine TE_callG _ [] rfl rfl trivial Tryz.call57 rfl rfl rfl (fun w hw => c_hashSet [] (.slice none 0 0) [] w Rdx.nil (by simp) (by simp) (by decide) (hw.sp (fun a => by simp -failIfUnchanged <;> omega))) (fun a => by simp -failIfUnchanged <;> omega) ?_
  rintro v13 H14 ⟨ts7, st9, hset8, hbo10, rfl, rfl⟩ hX11
  obtain rfl : ts7 = [] := hset8.uniq SetOf.nil
  have hRD12 : Rdx 32 (idC) (bldMx 38 (idC) ([] : List (Nat → Int)) st9) (bldVx ([] : List (Nat → Int)) st9) ([] : List (Nat → Int)) := hbo10.rdx (u := 38) idC_len
  refine TE_sp (bldMx 38 (idC) ([] : List (Nat → Int)) st9) (fun a => by simp -failIfUnchanged <;> omega) ?_
  refine TE_q rfl rfl (RD.assign rfl) rfl ?_
  refine TE_nil0 ?_
  refine pn_ret ?_
  exact pn_doneS (bldMx 38 (idC) ([] : List (Nat → Int)) st9) rfl rfl ⟨st9, hbo10, rfl, rfl⟩ (fun a => by simp -failIfUnchanged <;> omega) (ownN hX11)

theorem c_sibNewF (s : ByteArray) (g : Obj) (w : World) (hg : GOk g) (hs : s.size < 4294967281) (h0 : ¬ breaksN s = 0) (hH : Hp [(0, g)] w) : Calls Tryz.prog 15 #[.string s] w (Ret w [] fun v H1 => v = .tuple #[.pointer none, .int .i64 40] ∧ H1 = []) := by
  refine fn_enter (args := [_]) Tryz.func15 rfl Tryz.ntmps15 rfl hH ?_
  refine pn_seq ?_
  refine pn_plain [] rfl ?_
  refine TE_q rfl rfl (RD.assign rfl) rfl ?_
  refine TE_q rfl rfl (RD.assign rfl) rfl ?_
  refine TE_nil0 ?_
  refine pn_seq ?_
  refine pn_seq ?_
  refine pn_plain [] rfl ?_
  refine TE_q rfl rfl (RD.move rfl) rfl ?_
  refine TE_callG _ [(0, g)] rfl rfl trivial Tryz.call48 rfl rfl rfl (fun w hw => c_refCheck s g w hg hs (hw.sp (fun a => by simp -failIfUnchanged <;> omega))) (fun a => by simp -failIfUnchanged <;> omega) ?_
  rintro v1 H2 ⟨rfl, rfl⟩ -
  refine TE_q rfl rfl (RD.assign rfl) rfl ?_
  refine TE_nil0 ?_
  refine pn_seq ?_
  refine pn_plain [] rfl ?_
  refine TE_q rfl rfl (RD.move rfl) rfl ?_
  refine TE_q rfl rfl (RD.neq rfl rfl) rfl ?_
  refine TE_nil0 ?_
  refine pn_condN rfl (fun hc3 => ?_) (fun hc3 => ?_)
  · refine pn_seq ?_
    refine pn_plain [] rfl ?_
    refine TE_q rfl rfl (RD.move rfl) rfl ?_
    refine TE_q rfl rfl (RD.assign rfl) rfl ?_
    refine TE_q rfl rfl (RD.assign rfl) rfl ?_
    refine TE_nil0 ?_
    refine pn_ret ?_
    exact pn_doneS [] rfl rfl ⟨by rw [decide_eq_false h0]; rfl, rfl⟩ (fun _ => Nat.zero_le _) (fun _ he => nomatch he)
  · exfalso
    rw [decide_eq_false h0] at hc3; exact absurd hc3 (by decide)

theorem al6 {ts : List (Nat → Int)} (h : SetOf (tipsL (alL [(ofR 0 5 [1]), (ofR 1 5 []), (ofR 2 7 [])])) ts) : sameIL ts [fun i => if i = 0 then 5 else 0, fun i => if i = 0 then 7 else 0] = true := by
  rw [show tipsL (alL [(ofR 0 5 [1]), (ofR 1 5 []), (ofR 2 7 [])]) = [canI (ofR 0 5 [1]).tip, canI (ofR 0 5 [1]).tip, canI (ofR 2 7 []).tip] from by kernel_rfl] at h
  have hi : idCmp (canI (ofR 0 5 [1]).tip) (canI (ofR 2 7 []).tip) < 0 := by
    have : idCmp (canI (ofR 0 5 [1]).tip) (canI (ofR 2 7 []).tip) = -1 := by kernel_rfl
    omega
  have h2 : ts = [canI (ofR 0 5 [1]).tip, canI (ofR 2 7 []).tip] := h.uniq ⟨List.pairwise_cons.2 ⟨fun x hx => by simp only [List.mem_cons, List.not_mem_nil, or_false] at hx; subst hx; exact hi, List.pairwise_singleton _ _⟩, fun x => by simp⟩
  subst h2
  exact (show sameIL [canI (ofR 0 5 [1]).tip, canI (ofR 2 7 []).tip] [fun i => if i = 0 then 5 else 0, fun i => if i = 0 then 7 else 0] = true from by kernel_rfl)

theorem recZ_ok : RecOk recZ := ⟨by show i64Ok 0; unfold i64Ok; omega, by show i64Ok 0; unfold i64Ok; omega, fun _ => by show (0 : Int) ≤ 0 ∧ (0 : Int) ≤ 4294967295; omega, fun _ => by show (0 : Int) ≤ 0 ∧ (0 : Int) ≤ 255; omega⟩

set_option maxHeartbeats 1000000 in
theorem c_SibNames  (g : Obj) (w : World) (hg : GOk g) (hH : Hp [(0, g)] w) : Calls Tryz.prog 6 #[] w (Ret w [] fun v H1 => v = .bool true ∧ H1 = []) := by
  refine fn_enter (args := []) Tryz.func6 rfl Tryz.ntmps6 rfl hH ?_
  refine pn_seq ?_
  refine pn_plain [] rfl ?_
  refine TE_q rfl rfl (RD.assign rfl) rfl ?_
  refine TE_nil0 ?_
  refine pn_seq ?_
  refine pn_plain [] rfl ?_
  refine TE_callG _ [(0, g)] rfl rfl trivial Tryz.call15 rfl rfl rfl (fun w hw => c_sibNew ⟨#[97]⟩ g w hg (by decide) bk97 (hw.sp (fun a => by simp -failIfUnchanged <;> omega))) (fun a => by simp -failIfUnchanged <;> omega) ?_
  rintro v3 H4 ⟨bs1, rfl, rfl⟩ hX2
  refine TE_sp [(bs1, .cells #[.string ⟨#[97]⟩, .slice none 0 0] 56 (0, 0)), (0, g)] (fun a => by simp -failIfUnchanged <;> omega) ?_
  refine TE_q rfl rfl (RD.move rfl) rfl ?_
  refine TE_q rfl rfl (RD.extract rfl rfl) rfl ?_
  refine TE_q rfl rfl (RD.extract rfl rfl) rfl ?_
  refine TE_q rfl rfl (RD.assign rfl) rfl ?_
  refine TE_q rfl rfl (RD.assign rfl) rfl ?_
  refine TE_nil0 ?_
  refine pn_seq ?_
  refine pn_seq ?_
  refine pn_plain [] rfl ?_
  refine TE_q rfl rfl (RD.move rfl) rfl ?_
  refine TE_q rfl rfl (RD.as (v := .bool false) (RD.neq rfl rfl) rfl) rfl ?_
  refine TE_nil0 ?_
  refine pn_condF rfl ?_
  refine pn_skip ?_
  refine pn_seq ?_
  refine pn_plain [] rfl ?_
  refine TE_q rfl rfl (RD.move rfl) rfl ?_
  refine TE_buildSlice (cells := #[.int .u32 1]) rfl Tryz.runUnderlying99 Tryz.sizeOf34 Tryz.zeroValue34 rfl rfl rfl (by kernel_rfl) trivial rfl fun b45 hb45 => ?_
  refine TE_callG _ [(b45, .cells #[.int .u32 1] 34 (0, 0))] rfl rfl trivial Tryz.call22 rfl rfl rfl (fun w hw => c_of19 0 5 (.slice (some ⟨b45, 0, none⟩) 1 1) [1] [(b45, .cells #[.int .u32 1] 34 (0, 0))] w (by omega) ((Rdx.blk (enc := enI .u32) (H := [(b45, .cells #[.int .u32 1] 34 (0, 0))]) (xs := [1]) (n := 1) (i := 0) (tl := []) (c := 1) (enI_len .u32) rfl rfl (Nat.le_refl _)).mono (fun _ hw => hw.sp (fun a => by simp -failIfUnchanged <;> omega))) (by decide) (vok _ rfl) (hw.sp (fun a => by simp -failIfUnchanged <;> omega))) (fun a => by simp -failIfUnchanged <;> omega) ?_
  rintro v5 H6 ⟨rfl, rfl⟩ -
  refine TE_callM _ [(bs1, .cells #[.string ⟨#[97]⟩, .slice none 0 0] 56 (0, 0))] [(b45, .cells #[.int .u32 1] 34 (0, 0)), (0, g)] [(bs1, .cells #[.string ⟨#[97]⟩, .slice none 0 0] 56 (0, 0)), (0, g)] rfl rfl trivial Tryz.call16 rfl rfl rfl (ownC (.inl (hX2 _ List.mem_cons_self)) own0) (fun a => by simp -failIfUnchanged <;> omega) (fun w hw => (by have h := c_sibApplyF bs1 ⟨#[97]⟩ [] none (ofR 0 5 [1]) g [] w ne97 BldOk.nil (by simp) (ofR_ok (s := 0) (t := 5) (l := [1]) (by decide) (by decide) (vok _ rfl)) (by show ByteArray.size ⟨#[97]⟩ < 4294967281; decide) (by decide) hg List.Pairwise.nil (hw.sp (fun a => by simp -failIfUnchanged <;> omega)); rw [show apL ⟨#[97]⟩ [] (ofR 0 5 [1]) = [(ofR 0 5 [1])] from by kernel_rfl, show apG ⟨#[97]⟩ [] (ofR 0 5 [1]) = 0 from by kernel_rfl, show apE ⟨#[97]⟩ [] (ofR 0 5 [1]) = 0 from by kernel_rfl] at h; exact h)) (fun a => by simp -failIfUnchanged <;> omega) ?_
  rintro v11 H12 ⟨st7, rfl, hbo8, rfl⟩ hX9
  have hRD10 : Rdx 52 (recC) (bldMx 40 (recC) [(ofR 0 5 [1])] st7) (bldVx [(ofR 0 5 [1])] st7) [(ofR 0 5 [1])] := hbo8.rdx (u := 40) recC_len
  refine TE_sp ((bs1, .cells #[.string ⟨#[97]⟩, bldVx [(ofR 0 5 [1])] st7] 56 (0, 0)) :: (b45, .cells #[.int .u32 1] 34 (0, 0)) :: (0, g) :: (bldMx 40 (recC) [(ofR 0 5 [1])] st7)) (fun a => by simp -failIfUnchanged <;> omega) ?_
  refine TE_nil0 ?_
  refine pn_seq ?_
  refine pn_plainG [] ((bs1, .cells #[.string ⟨#[97]⟩, bldVx [(ofR 0 5 [1])] st7] 56 (0, 0)) :: (0, g) :: (bldMx 40 (recC) [(ofR 0 5 [1])] st7)) rfl (fun a => by simp -failIfUnchanged <;> omega) ?_
  refine TE_q rfl rfl (RD.move rfl) rfl ?_
  refine TE_buildSlice (cells := #[.int .u32 1]) rfl Tryz.runUnderlying99 Tryz.sizeOf34 Tryz.zeroValue34 rfl rfl rfl (by kernel_rfl) trivial rfl fun b50 hb50 => ?_
  refine TE_callG _ [(b50, .cells #[.int .u32 1] 34 (0, 0))] rfl rfl trivial Tryz.call22 rfl rfl rfl (fun w hw => c_of19 0 6 (.slice (some ⟨b50, 0, none⟩) 1 1) [1] [(b50, .cells #[.int .u32 1] 34 (0, 0))] w (by omega) ((Rdx.blk (enc := enI .u32) (H := [(b50, .cells #[.int .u32 1] 34 (0, 0))]) (xs := [1]) (n := 1) (i := 0) (tl := []) (c := 1) (enI_len .u32) rfl rfl (Nat.le_refl _)).mono (fun _ hw => hw.sp (fun a => by simp -failIfUnchanged <;> omega))) (by decide) (vok _ rfl) (hw.sp (fun a => by simp -failIfUnchanged <;> omega))) (fun a => by simp -failIfUnchanged <;> omega) ?_
  rintro v13 H14 ⟨rfl, rfl⟩ -
  refine TE_callM _ ((bs1, .cells #[.string ⟨#[97]⟩, bldVx [(ofR 0 5 [1])] st7] 56 (0, 0)) :: (bldMx 40 (recC) [(ofR 0 5 [1])] st7)) [(b50, .cells #[.int .u32 1] 34 (0, 0)), (0, g)] ((bs1, .cells #[.string ⟨#[97]⟩, bldVx [(ofR 0 5 [1])] st7] 56 (0, 0)) :: (0, g) :: (bldMx 40 (recC) [(ofR 0 5 [1])] st7)) rfl rfl trivial Tryz.call16 rfl rfl rfl (ownC (.inl (hX2 _ List.mem_cons_self)) (fun e he => hX9 e (List.mem_cons_of_mem _ he))) (fun a => by simp -failIfUnchanged <;> omega) (fun w hw => (by have h := c_sibApplyF bs1 ⟨#[97]⟩ [(ofR 0 5 [1])] st7 (ofR 0 6 [1]) g [] w ne97 hbo8 (by intro x hx; simp only [List.mem_cons, List.not_mem_nil, or_false] at hx; rcases hx with rfl <;> exact ofR_ok (by decide) (by decide) (vok _ rfl)) (ofR_ok (s := 0) (t := 6) (l := [1]) (by decide) (by decide) (vok _ rfl)) (by show ByteArray.size ⟨#[97]⟩ < 4294967281; decide) (by decide) hg (List.pairwise_singleton _ _) (hw.sp (fun a => by simp -failIfUnchanged <;> omega)); rw [show apL ⟨#[97]⟩ [(ofR 0 5 [1])] (ofR 0 6 [1]) = [(ofR 0 5 [1])] from by kernel_rfl, show apG ⟨#[97]⟩ [(ofR 0 5 [1])] (ofR 0 6 [1]) = 0 from by kernel_rfl, show apE ⟨#[97]⟩ [(ofR 0 5 [1])] (ofR 0 6 [1]) = 190 from by kernel_rfl] at h; exact h)) (fun a => by simp -failIfUnchanged <;> omega) ?_
  rintro v19 H20 ⟨st15, rfl, hbo16, rfl⟩ hX17
  have hRD18 : Rdx 52 (recC) (bldMx 40 (recC) [(ofR 0 5 [1])] st15) (bldVx [(ofR 0 5 [1])] st15) [(ofR 0 5 [1])] := hbo16.rdx (u := 40) recC_len
  refine TE_sp ((bs1, .cells #[.string ⟨#[97]⟩, bldVx [(ofR 0 5 [1])] st15] 56 (0, 0)) :: (b50, .cells #[.int .u32 1] 34 (0, 0)) :: (0, g) :: (bldMx 40 (recC) [(ofR 0 5 [1])] st15)) (fun a => by simp -failIfUnchanged <;> omega) ?_
  refine TE_q rfl rfl (RD.move rfl) rfl ?_
  refine TE_q rfl rfl (RD.extract rfl rfl) rfl ?_
  refine TE_q rfl rfl (RD.extract rfl rfl) rfl ?_
  refine TE_q rfl rfl (RD.assign rfl) rfl ?_
  refine TE_q rfl rfl (RD.assign rfl) rfl ?_
  refine TE_nil0 ?_
  refine pn_seq ?_
  refine pn_plainG [] ((bs1, .cells #[.string ⟨#[97]⟩, bldVx [(ofR 0 5 [1])] st15] 56 (0, 0)) :: (0, g) :: (bldMx 40 (recC) [(ofR 0 5 [1])] st15)) rfl (fun a => by simp -failIfUnchanged <;> omega) ?_
  refine TE_callG _ [] rfl rfl trivial Tryz.call22 rfl rfl rfl (fun w hw => c_of19 1 1 (.slice none 0 0) [] [] w (by omega) Rdx.nil (by decide) (vok _ rfl) (hw.sp (fun a => by simp -failIfUnchanged <;> omega))) (fun a => by simp -failIfUnchanged <;> omega) ?_
  rintro v21 H22 ⟨rfl, rfl⟩ -
  refine TE_allocC (recV recZ).cells rfl Tryz.zeroValue40 rfl trivial rfl fun b5 hb5 => ?_
  refine TE_putCW 0 (recV recZ).cells (recV (ofR 1 1 [])).cells ((b5, .cells (recV (ofR 1 1 [])).cells 40 (0, 0)) :: (bs1, .cells #[.string ⟨#[97]⟩, bldVx [(ofR 0 5 [1])] st15] 56 (0, 0)) :: (0, g) :: (bldMx 40 (recC) [(ofR 0 5 [1])] st15)) rfl Tryz.sizeOf40 trivial rfl rfl rfl rfl rfl rfl rfl rfl (.inl hb5) ?_
  refine TE_nil0 ?_
  refine pn_seq ?_
  refine pn_plain [] rfl ?_
  refine TE_q rfl rfl (RD.fieldAddr (o := 18) Tryz.runUnderlying40 rfl rfl Tryz.sizeOf9 rfl) rfl ?_
  refine TE_storeC 0 (recV (ofR 1 1 [])).cells (recV (⟨(ofR 1 1 []).s, (ofR 1 1 []).c, (ofR 1 1 []).ctx, ⟨#[98]⟩, (ofR 1 1 []).has, (ofR 1 1 []).tip⟩ : Rec)).cells ((b5, .cells (recV (⟨(ofR 1 1 []).s, (ofR 1 1 []).c, (ofR 1 1 []).ctx, ⟨#[98]⟩, (ofR 1 1 []).has, (ofR 1 1 []).tip⟩ : Rec)).cells 40 (0, 0)) :: (bs1, .cells #[.string ⟨#[97]⟩, bldVx [(ofR 0 5 [1])] st15] 56 (0, 0)) :: (0, g) :: (bldMx 40 (recC) [(ofR 0 5 [1])] st15)) rfl Tryz.sizeOf9 trivial rfl rfl rfl rfl rfl rfl (put_rec_ref _ _) rfl (.inl hb5) ?_
  refine TE_nil0 ?_
  refine pn_seq ?_
  refine pn_plain [] rfl ?_
  refine TE_q rfl rfl (RD.move rfl) rfl ?_
  refine TE_l rfl rfl trivial rfl (RD.loadA (i := 0) Tryz.isAgg40 Tryz.sizeOf40 rfl rfl (Nat.le_of_ble_eq_true rfl) (rec_all _)) rfl ?_
  refine TE_callM _ ((bs1, .cells #[.string ⟨#[97]⟩, bldVx [(ofR 0 5 [1])] st15] 56 (0, 0)) :: (bldMx 40 (recC) [(ofR 0 5 [1])] st15)) [(b5, .cells (recV (⟨(ofR 1 1 []).s, (ofR 1 1 []).c, (ofR 1 1 []).ctx, ⟨#[98]⟩, (ofR 1 1 []).has, (ofR 1 1 []).tip⟩ : Rec)).cells 40 (0, 0)), (0, g)] ((bs1, .cells #[.string ⟨#[97]⟩, bldVx [(ofR 0 5 [1])] st15] 56 (0, 0)) :: (0, g) :: (bldMx 40 (recC) [(ofR 0 5 [1])] st15)) rfl rfl trivial Tryz.call16 rfl rfl rfl (ownC (.inl (hX2 _ List.mem_cons_self)) (fun e he => hX17 e (List.mem_cons_of_mem _ he))) (fun a => by simp -failIfUnchanged <;> omega) (fun w hw => (by have h := c_sibApplyF bs1 ⟨#[97]⟩ [(ofR 0 5 [1])] st15 (⟨(ofR 1 1 []).s, (ofR 1 1 []).c, (ofR 1 1 []).ctx, ⟨#[98]⟩, (ofR 1 1 []).has, (ofR 1 1 []).tip⟩ : Rec) g [] w ne97 hbo16 (by intro x hx; simp only [List.mem_cons, List.not_mem_nil, or_false] at hx; rcases hx with rfl <;> exact ofR_ok (by decide) (by decide) (vok _ rfl)) ⟨((ofR_ok (s := 1) (t := 1) (l := []) (by decide) (by decide) (vok _ rfl))).s, ((ofR_ok (s := 1) (t := 1) (l := []) (by decide) (by decide) (vok _ rfl))).c, ((ofR_ok (s := 1) (t := 1) (l := []) (by decide) (by decide) (vok _ rfl))).ctx, ((ofR_ok (s := 1) (t := 1) (l := []) (by decide) (by decide) (vok _ rfl))).tip⟩ (by decide) (by decide) hg (List.pairwise_singleton _ _) (hw.sp (fun a => by simp -failIfUnchanged <;> omega)); rw [show apL ⟨#[97]⟩ [(ofR 0 5 [1])] (⟨(ofR 1 1 []).s, (ofR 1 1 []).c, (ofR 1 1 []).ctx, ⟨#[98]⟩, (ofR 1 1 []).has, (ofR 1 1 []).tip⟩ : Rec) = [(ofR 0 5 [1])] from by kernel_rfl, show apG ⟨#[97]⟩ [(ofR 0 5 [1])] (⟨(ofR 1 1 []).s, (ofR 1 1 []).c, (ofR 1 1 []).ctx, ⟨#[98]⟩, (ofR 1 1 []).has, (ofR 1 1 []).tip⟩ : Rec) = 0 from by kernel_rfl, show apE ⟨#[97]⟩ [(ofR 0 5 [1])] (⟨(ofR 1 1 []).s, (ofR 1 1 []).c, (ofR 1 1 []).ctx, ⟨#[98]⟩, (ofR 1 1 []).has, (ofR 1 1 []).tip⟩ : Rec) = 190 from by kernel_rfl] at h; exact h)) (fun a => by simp -failIfUnchanged <;> omega) ?_
  rintro v27 H28 ⟨st23, rfl, hbo24, rfl⟩ hX25
  have hRD26 : Rdx 52 (recC) (bldMx 40 (recC) [(ofR 0 5 [1])] st23) (bldVx [(ofR 0 5 [1])] st23) [(ofR 0 5 [1])] := hbo24.rdx (u := 40) recC_len
  refine TE_sp ((bs1, .cells #[.string ⟨#[97]⟩, bldVx [(ofR 0 5 [1])] st23] 56 (0, 0)) :: (b5, .cells (recV (⟨(ofR 1 1 []).s, (ofR 1 1 []).c, (ofR 1 1 []).ctx, ⟨#[98]⟩, (ofR 1 1 []).has, (ofR 1 1 []).tip⟩ : Rec)).cells 40 (0, 0)) :: (0, g) :: (bldMx 40 (recC) [(ofR 0 5 [1])] st23)) (fun a => by simp -failIfUnchanged <;> omega) ?_
  refine TE_q rfl rfl (RD.move rfl) rfl ?_
  refine TE_q rfl rfl (RD.extract rfl rfl) rfl ?_
  refine TE_q rfl rfl (RD.extract rfl rfl) rfl ?_
  refine TE_q rfl rfl (RD.assign rfl) rfl ?_
  refine TE_q rfl rfl (RD.assign rfl) rfl ?_
  refine TE_nil0 ?_
  refine pn_seq ?_
  refine pn_plain [] rfl ?_
  refine TE_q rfl rfl (RD.move rfl) rfl ?_
  refine TE_q rfl rfl (RD.build (v := recV recZ) rfl bd_recZ) rfl ?_
  refine TE_callM _ ((bs1, .cells #[.string ⟨#[97]⟩, bldVx [(ofR 0 5 [1])] st23] 56 (0, 0)) :: (bldMx 40 (recC) [(ofR 0 5 [1])] st23)) [(b5, .cells (recV (⟨(ofR 1 1 []).s, (ofR 1 1 []).c, (ofR 1 1 []).ctx, ⟨#[98]⟩, (ofR 1 1 []).has, (ofR 1 1 []).tip⟩ : Rec)).cells 40 (0, 0)), (0, g)] ((bs1, .cells #[.string ⟨#[97]⟩, bldVx [(ofR 0 5 [1])] st23] 56 (0, 0)) :: (0, g) :: (bldMx 40 (recC) [(ofR 0 5 [1])] st23)) rfl rfl trivial Tryz.call16 rfl rfl rfl (ownC (.inl (hX2 _ List.mem_cons_self)) (fun e he => hX25 e (List.mem_cons_of_mem _ he))) (fun a => by simp -failIfUnchanged <;> omega) (fun w hw => (by have h := c_sibApplyF bs1 ⟨#[97]⟩ [(ofR 0 5 [1])] st23 recZ g [] w ne97 hbo24 (by intro x hx; simp only [List.mem_cons, List.not_mem_nil, or_false] at hx; rcases hx with rfl <;> exact ofR_ok (by decide) (by decide) (vok _ rfl)) recZ_ok (by decide) (by decide) hg (List.pairwise_singleton _ _) (hw.sp (fun a => by simp -failIfUnchanged <;> omega)); rw [show apL ⟨#[97]⟩ [(ofR 0 5 [1])] recZ = [(ofR 0 5 [1])] from by kernel_rfl, show apG ⟨#[97]⟩ [(ofR 0 5 [1])] recZ = 0 from by kernel_rfl, show apE ⟨#[97]⟩ [(ofR 0 5 [1])] recZ = 190 from by kernel_rfl] at h; exact h)) (fun a => by simp -failIfUnchanged <;> omega) ?_
  rintro v33 H34 ⟨st29, rfl, hbo30, rfl⟩ hX31
  have hRD32 : Rdx 52 (recC) (bldMx 40 (recC) [(ofR 0 5 [1])] st29) (bldVx [(ofR 0 5 [1])] st29) [(ofR 0 5 [1])] := hbo30.rdx (u := 40) recC_len
  refine TE_sp ((bs1, .cells #[.string ⟨#[97]⟩, bldVx [(ofR 0 5 [1])] st29] 56 (0, 0)) :: (b5, .cells (recV (⟨(ofR 1 1 []).s, (ofR 1 1 []).c, (ofR 1 1 []).ctx, ⟨#[98]⟩, (ofR 1 1 []).has, (ofR 1 1 []).tip⟩ : Rec)).cells 40 (0, 0)) :: (0, g) :: (bldMx 40 (recC) [(ofR 0 5 [1])] st29)) (fun a => by simp -failIfUnchanged <;> omega) ?_
  refine TE_q rfl rfl (RD.move rfl) rfl ?_
  refine TE_q rfl rfl (RD.extract rfl rfl) rfl ?_
  refine TE_q rfl rfl (RD.extract rfl rfl) rfl ?_
  refine TE_q rfl rfl (RD.assign rfl) rfl ?_
  refine TE_q rfl rfl (RD.assign rfl) rfl ?_
  refine TE_nil0 ?_
  refine pn_seq ?_
  refine pn_plain [] rfl ?_
  refine TE_q rfl rfl (RD.move rfl) rfl ?_
  refine TE_callG _ [] rfl rfl trivial Tryz.call22 rfl rfl rfl (fun w hw => c_of19 0 4 (.slice none 0 0) [] [] w (by omega) Rdx.nil (by decide) (vok _ rfl) (hw.sp (fun a => by simp -failIfUnchanged <;> omega))) (fun a => by simp -failIfUnchanged <;> omega) ?_
  rintro v35 H36 ⟨rfl, rfl⟩ -
  refine TE_callM _ ((bs1, .cells #[.string ⟨#[97]⟩, bldVx [(ofR 0 5 [1])] st29] 56 (0, 0)) :: (bldMx 40 (recC) [(ofR 0 5 [1])] st29)) [(b5, .cells (recV (⟨(ofR 1 1 []).s, (ofR 1 1 []).c, (ofR 1 1 []).ctx, ⟨#[98]⟩, (ofR 1 1 []).has, (ofR 1 1 []).tip⟩ : Rec)).cells 40 (0, 0)), (0, g)] ((bs1, .cells #[.string ⟨#[97]⟩, bldVx [(ofR 0 5 [1])] st29] 56 (0, 0)) :: (0, g) :: (bldMx 40 (recC) [(ofR 0 5 [1])] st29)) rfl rfl trivial Tryz.call16 rfl rfl rfl (ownC (.inl (hX2 _ List.mem_cons_self)) (fun e he => hX31 e (List.mem_cons_of_mem _ he))) (fun a => by simp -failIfUnchanged <;> omega) (fun w hw => (by have h := c_sibApplyF bs1 ⟨#[97]⟩ [(ofR 0 5 [1])] st29 (ofR 0 4 []) g [] w ne97 hbo30 (by intro x hx; simp only [List.mem_cons, List.not_mem_nil, or_false] at hx; rcases hx with rfl <;> exact ofR_ok (by decide) (by decide) (vok _ rfl)) (ofR_ok (s := 0) (t := 4) (l := []) (by decide) (by decide) (vok _ rfl)) (by show ByteArray.size ⟨#[97]⟩ < 4294967281; decide) (by decide) hg (List.pairwise_singleton _ _) (hw.sp (fun a => by simp -failIfUnchanged <;> omega)); rw [show apL ⟨#[97]⟩ [(ofR 0 5 [1])] (ofR 0 4 []) = [(ofR 0 5 [1])] from by kernel_rfl, show apG ⟨#[97]⟩ [(ofR 0 5 [1])] (ofR 0 4 []) = 0 from by kernel_rfl, show apE ⟨#[97]⟩ [(ofR 0 5 [1])] (ofR 0 4 []) = 0 from by kernel_rfl] at h; exact h)) (fun a => by simp -failIfUnchanged <;> omega) ?_
  rintro v41 H42 ⟨st37, rfl, hbo38, rfl⟩ hX39
  have hRD40 : Rdx 52 (recC) (bldMx 40 (recC) [(ofR 0 5 [1])] st37) (bldVx [(ofR 0 5 [1])] st37) [(ofR 0 5 [1])] := hbo38.rdx (u := 40) recC_len
  refine TE_sp ((bs1, .cells #[.string ⟨#[97]⟩, bldVx [(ofR 0 5 [1])] st37] 56 (0, 0)) :: (b5, .cells (recV (⟨(ofR 1 1 []).s, (ofR 1 1 []).c, (ofR 1 1 []).ctx, ⟨#[98]⟩, (ofR 1 1 []).has, (ofR 1 1 []).tip⟩ : Rec)).cells 40 (0, 0)) :: (0, g) :: (bldMx 40 (recC) [(ofR 0 5 [1])] st37)) (fun a => by simp -failIfUnchanged <;> omega) ?_
  refine TE_q rfl rfl (RD.move rfl) rfl ?_
  refine TE_q rfl rfl (RD.extract rfl rfl) rfl ?_
  refine TE_q rfl rfl (RD.extract rfl rfl) rfl ?_
  refine TE_q rfl rfl (RD.assign rfl) rfl ?_
  refine TE_q rfl rfl (RD.assign rfl) rfl ?_
  refine TE_nil0 ?_
  refine pn_seq ?_
  refine pn_plain [] rfl ?_
  refine TE_q rfl rfl (RD.move rfl) rfl ?_
  refine TE_q rfl rfl (RD.as (v := .bool true) (RD.eql rfl rfl) rfl) rfl ?_
  refine TE_q rfl rfl (RD.move rfl) rfl ?_
  refine TE_gq rfl rfl rfl rfl (RD.move rfl) rfl ?_
  refine TE_gq rfl rfl rfl rfl (RD.as (v := .bool true) (RD.eql rfl rfl) rfl) rfl ?_
  refine TE_q rfl rfl (RD.pickT rfl rfl) rfl ?_
  refine TE_q rfl rfl (RD.move rfl) rfl ?_
  refine TE_gq rfl rfl rfl rfl (RD.move rfl) rfl ?_
  refine TE_gq rfl rfl rfl rfl (RD.as (v := .bool true) (RD.eql rfl rfl) rfl) rfl ?_
  refine TE_q rfl rfl (RD.pickT rfl rfl) rfl ?_
  refine TE_q rfl rfl (RD.move rfl) rfl ?_
  refine TE_gq rfl rfl rfl rfl (RD.move rfl) rfl ?_
  refine TE_gq rfl rfl rfl rfl (RD.as (v := .bool true) (RD.eql rfl rfl) rfl) rfl ?_
  refine TE_q rfl rfl (RD.pickT rfl rfl) rfl ?_
  refine TE_q rfl rfl (RD.move rfl) rfl ?_
  refine TE_gq rfl rfl rfl rfl (RD.move rfl) rfl ?_
  refine TE_gq rfl rfl rfl rfl (RD.as (v := .bool true) (RD.eql rfl rfl) rfl) rfl ?_
  refine TE_q rfl rfl (RD.pickT rfl rfl) rfl ?_
  refine TE_q rfl rfl (RD.move rfl) rfl ?_
  refine TE_gq rfl rfl rfl rfl (RD.move rfl) rfl ?_
  refine TE_callG _ ((bs1, .cells #[.string ⟨#[97]⟩, bldVx [(ofR 0 5 [1])] st37] 56 (0, 0)) :: (bldMx 40 (recC) [(ofR 0 5 [1])] st37)) rfl rfl ⟨_, rfl, rfl⟩ Tryz.call17 rfl rfl rfl (fun w hw => c_sibAll bs1 ⟨#[97]⟩ (bldVx [(ofR 0 5 [1])] st37) (bldMx 40 (recC) [(ofR 0 5 [1])] st37) [(ofR 0 5 [1])] w ne97 (hRD40.mono (fun _ hw => hw.sp (fun a => by simp -failIfUnchanged <;> omega))) (by intro x hx; simp only [List.mem_cons, List.not_mem_nil, or_false] at hx; rcases hx with rfl <;> exact ofR_ok (by decide) (by decide) (vok _ rfl)) (by decide) (hw.sp (fun a => by simp -failIfUnchanged <;> omega))) (fun a => by simp -failIfUnchanged <;> omega) ?_
  rintro v47 H48 ⟨st43, hbo44, rfl, rfl⟩ hX45
  have hRD46 : Rdx 52 (recC) (bldMx 40 (recC) [(ofR 0 5 [1])] st43) (bldVx [(ofR 0 5 [1])] st43) [(ofR 0 5 [1])] := hbo44.rdx (u := 40) recC_len
  refine TE_sp ((bs1, .cells #[.string ⟨#[97]⟩, bldVx [(ofR 0 5 [1])] st37] 56 (0, 0)) :: (b5, .cells (recV (⟨(ofR 1 1 []).s, (ofR 1 1 []).c, (ofR 1 1 []).ctx, ⟨#[98]⟩, (ofR 1 1 []).has, (ofR 1 1 []).tip⟩ : Rec)).cells 40 (0, 0)) :: (0, g) :: ((bldMx 40 (recC) [(ofR 0 5 [1])] st43) ++ (bldMx 40 (recC) [(ofR 0 5 [1])] st37))) (fun a => by simp -failIfUnchanged <;> omega) ?_
  refine TE_buildSlice (cells := #[.int .u32 1]) rfl Tryz.runUnderlying99 Tryz.sizeOf34 Tryz.zeroValue34 rfl rfl rfl (by kernel_rfl) ⟨_, rfl, rfl⟩ rfl fun b96 hb96 => ?_
  refine TE_callG _ [(b96, .cells #[.int .u32 1] 34 (0, 0))] rfl rfl ⟨_, rfl, rfl⟩ Tryz.call22 rfl rfl rfl (fun w hw => c_of19 0 5 (.slice (some ⟨b96, 0, none⟩) 1 1) [1] [(b96, .cells #[.int .u32 1] 34 (0, 0))] w (by omega) ((Rdx.blk (enc := enI .u32) (H := [(b96, .cells #[.int .u32 1] 34 (0, 0))]) (xs := [1]) (n := 1) (i := 0) (tl := []) (c := 1) (enI_len .u32) rfl rfl (Nat.le_refl _)).mono (fun _ hw => hw.sp (fun a => by simp -failIfUnchanged <;> omega))) (by decide) (vok _ rfl) (hw.sp (fun a => by simp -failIfUnchanged <;> omega))) (fun a => by simp -failIfUnchanged <;> omega) ?_
  rintro v49 H50 ⟨rfl, rfl⟩ -
  refine TE_buildSlice (cells := (cat recC [(ofR 0 5 [1])] ++ []).toArray) rfl Tryz.runUnderlying22 Tryz.sizeOf40 Tryz.zeroValue40 rfl rfl rfl (by kernel_rfl) ⟨_, rfl, rfl⟩ rfl fun b98 hb98 => ?_
  refine TE_callG _ ((b98, .cells (cat recC [(ofR 0 5 [1])] ++ []).toArray 40 (0, 0)) :: (bldMx 40 (recC) [(ofR 0 5 [1])] st43)) rfl rfl ⟨_, rfl, rfl⟩ Tryz.call12 rfl rfl rfl (fun w hw => (by have h := c_r12Same ((b98, .cells (cat recC [(ofR 0 5 [1])] ++ []).toArray 40 (0, 0)) :: (bldMx 40 (recC) [(ofR 0 5 [1])] st43)) (bldVx [(ofR 0 5 [1])] st43) (.slice (some ⟨b98, 0, none⟩) 1 1) [(ofR 0 5 [1])] [(ofR 0 5 [1])] w (hRD46.mono (fun _ hw => hw.sp (fun a => by simp -failIfUnchanged <;> omega))) ((Rdx.blk (enc := recC) (H := [(b98, .cells (cat recC [(ofR 0 5 [1])] ++ []).toArray 40 (0, 0))]) (xs := [(ofR 0 5 [1])]) (n := 1) (i := 0) (tl := []) (c := 1) recC_len rfl rfl (Nat.le_refl _)).mono (fun _ hw => hw.sp (fun a => by simp -failIfUnchanged <;> omega))) (by decide) (hw.sp (fun a => by simp -failIfUnchanged <;> omega)); rw [show (sameLB [(ofR 0 5 [1])] [(ofR 0 5 [1])]) = true from sameLB_self _] at h; exact h)) (fun a => by simp -failIfUnchanged <;> omega) ?_
  rintro v51 H52 ⟨rfl, rfl⟩ -
  refine TE_q rfl rfl (RD.pickT rfl rfl) rfl ?_
  refine TE_q rfl rfl (RD.assign rfl) rfl ?_
  refine TE_nil0 ?_
  refine pn_seq ?_
  refine pn_plainG [] ((bs1, .cells #[.string ⟨#[97]⟩, bldVx [(ofR 0 5 [1])] st37] 56 (0, 0)) :: (b5, .cells (recV (⟨(ofR 1 1 []).s, (ofR 1 1 []).c, (ofR 1 1 []).ctx, ⟨#[98]⟩, (ofR 1 1 []).has, (ofR 1 1 []).tip⟩ : Rec)).cells 40 (0, 0)) :: (0, g) :: (bldMx 40 (recC) [(ofR 0 5 [1])] st37)) rfl (fun a => by simp -failIfUnchanged <;> omega) ?_
  refine TE_q rfl rfl (RD.move rfl) rfl ?_
  refine TE_callG _ [] rfl rfl trivial Tryz.call22 rfl rfl rfl (fun w hw => c_of19 1 5 (.slice none 0 0) [] [] w (by omega) Rdx.nil (by decide) (vok _ rfl) (hw.sp (fun a => by simp -failIfUnchanged <;> omega))) (fun a => by simp -failIfUnchanged <;> omega) ?_
  rintro v53 H54 ⟨rfl, rfl⟩ -
  refine TE_callM _ ((bs1, .cells #[.string ⟨#[97]⟩, bldVx [(ofR 0 5 [1])] st37] 56 (0, 0)) :: (bldMx 40 (recC) [(ofR 0 5 [1])] st37)) [(b5, .cells (recV (⟨(ofR 1 1 []).s, (ofR 1 1 []).c, (ofR 1 1 []).ctx, ⟨#[98]⟩, (ofR 1 1 []).has, (ofR 1 1 []).tip⟩ : Rec)).cells 40 (0, 0)), (0, g)] ((bs1, .cells #[.string ⟨#[97]⟩, bldVx [(ofR 0 5 [1])] st37] 56 (0, 0)) :: (0, g) :: (bldMx 40 (recC) [(ofR 0 5 [1])] st37)) rfl rfl trivial Tryz.call16 rfl rfl rfl (ownC (.inl (hX2 _ List.mem_cons_self)) (fun e he => hX39 e (List.mem_cons_of_mem _ he))) (fun a => by simp -failIfUnchanged <;> omega) (fun w hw => (by have h := c_sibApplyF bs1 ⟨#[97]⟩ [(ofR 0 5 [1])] st37 (ofR 1 5 []) g [] w ne97 hbo38 (by intro x hx; simp only [List.mem_cons, List.not_mem_nil, or_false] at hx; rcases hx with rfl <;> exact ofR_ok (by decide) (by decide) (vok _ rfl)) (ofR_ok (s := 1) (t := 5) (l := []) (by decide) (by decide) (vok _ rfl)) (by show ByteArray.size ⟨#[97]⟩ < 4294967281; decide) (by decide) hg (List.pairwise_singleton _ _) (hw.sp (fun a => by simp -failIfUnchanged <;> omega)); rw [show apL ⟨#[97]⟩ [(ofR 0 5 [1])] (ofR 1 5 []) = [(ofR 0 5 [1]), (ofR 1 5 [])] from by kernel_rfl, show apG ⟨#[97]⟩ [(ofR 0 5 [1])] (ofR 1 5 []) = 0 from by kernel_rfl, show apE ⟨#[97]⟩ [(ofR 0 5 [1])] (ofR 1 5 []) = 0 from by kernel_rfl] at h; exact h)) (fun a => by simp -failIfUnchanged <;> omega) ?_
  rintro v59 H60 ⟨st55, rfl, hbo56, rfl⟩ hX57
  have hRD58 : Rdx 52 (recC) (bldMx 40 (recC) [(ofR 0 5 [1]), (ofR 1 5 [])] st55) (bldVx [(ofR 0 5 [1]), (ofR 1 5 [])] st55) [(ofR 0 5 [1]), (ofR 1 5 [])] := hbo56.rdx (u := 40) recC_len
  refine TE_sp ((bs1, .cells #[.string ⟨#[97]⟩, bldVx [(ofR 0 5 [1]), (ofR 1 5 [])] st55] 56 (0, 0)) :: (b5, .cells (recV (⟨(ofR 1 1 []).s, (ofR 1 1 []).c, (ofR 1 1 []).ctx, ⟨#[98]⟩, (ofR 1 1 []).has, (ofR 1 1 []).tip⟩ : Rec)).cells 40 (0, 0)) :: (0, g) :: (bldMx 40 (recC) [(ofR 0 5 [1]), (ofR 1 5 [])] st55)) (fun a => by simp -failIfUnchanged <;> omega) ?_
  refine TE_nil0 ?_
  refine pn_seq ?_
  refine pn_plain [] rfl ?_
  refine TE_q rfl rfl (RD.move rfl) rfl ?_
  refine TE_callG _ [] rfl rfl trivial Tryz.call22 rfl rfl rfl (fun w hw => c_of19 2 7 (.slice none 0 0) [] [] w (by omega) Rdx.nil (by decide) (vok _ rfl) (hw.sp (fun a => by simp -failIfUnchanged <;> omega))) (fun a => by simp -failIfUnchanged <;> omega) ?_
  rintro v61 H62 ⟨rfl, rfl⟩ -
  refine TE_callM _ ((bs1, .cells #[.string ⟨#[97]⟩, bldVx [(ofR 0 5 [1]), (ofR 1 5 [])] st55] 56 (0, 0)) :: (bldMx 40 (recC) [(ofR 0 5 [1]), (ofR 1 5 [])] st55)) [(b5, .cells (recV (⟨(ofR 1 1 []).s, (ofR 1 1 []).c, (ofR 1 1 []).ctx, ⟨#[98]⟩, (ofR 1 1 []).has, (ofR 1 1 []).tip⟩ : Rec)).cells 40 (0, 0)), (0, g)] ((bs1, .cells #[.string ⟨#[97]⟩, bldVx [(ofR 0 5 [1]), (ofR 1 5 [])] st55] 56 (0, 0)) :: (0, g) :: (bldMx 40 (recC) [(ofR 0 5 [1]), (ofR 1 5 [])] st55)) rfl rfl trivial Tryz.call16 rfl rfl rfl (ownC (.inl (hX2 _ List.mem_cons_self)) (fun e he => hX57 e (List.mem_cons_of_mem _ he))) (fun a => by simp -failIfUnchanged <;> omega) (fun w hw => (by have h := c_sibApplyF bs1 ⟨#[97]⟩ [(ofR 0 5 [1]), (ofR 1 5 [])] st55 (ofR 2 7 []) g [] w ne97 hbo56 (by intro x hx; simp only [List.mem_cons, List.not_mem_nil, or_false] at hx; rcases hx with rfl | rfl <;> exact ofR_ok (by decide) (by decide) (vok _ rfl)) (ofR_ok (s := 2) (t := 7) (l := []) (by decide) (by decide) (vok _ rfl)) (by show ByteArray.size ⟨#[97]⟩ < 4294967281; decide) (by decide) hg (by show List.Pairwise dlt _; simp only [List.pairwise_cons, List.mem_cons, List.not_mem_nil, or_false, forall_eq_or_imp, forall_eq, dlt_iff, List.Pairwise.nil, and_true, false_implies, implies_true]; decide) (hw.sp (fun a => by simp -failIfUnchanged <;> omega)); rw [show apL ⟨#[97]⟩ [(ofR 0 5 [1]), (ofR 1 5 [])] (ofR 2 7 []) = [(ofR 0 5 [1]), (ofR 1 5 []), (ofR 2 7 [])] from by kernel_rfl, show apG ⟨#[97]⟩ [(ofR 0 5 [1]), (ofR 1 5 [])] (ofR 2 7 []) = 0 from by kernel_rfl, show apE ⟨#[97]⟩ [(ofR 0 5 [1]), (ofR 1 5 [])] (ofR 2 7 []) = 0 from by kernel_rfl] at h; exact h)) (fun a => by simp -failIfUnchanged <;> omega) ?_
  rintro v67 H68 ⟨st63, rfl, hbo64, rfl⟩ hX65
  have hRD66 : Rdx 52 (recC) (bldMx 40 (recC) [(ofR 0 5 [1]), (ofR 1 5 []), (ofR 2 7 [])] st63) (bldVx [(ofR 0 5 [1]), (ofR 1 5 []), (ofR 2 7 [])] st63) [(ofR 0 5 [1]), (ofR 1 5 []), (ofR 2 7 [])] := hbo64.rdx (u := 40) recC_len
  refine TE_sp ((bs1, .cells #[.string ⟨#[97]⟩, bldVx [(ofR 0 5 [1]), (ofR 1 5 []), (ofR 2 7 [])] st63] 56 (0, 0)) :: (b5, .cells (recV (⟨(ofR 1 1 []).s, (ofR 1 1 []).c, (ofR 1 1 []).ctx, ⟨#[98]⟩, (ofR 1 1 []).has, (ofR 1 1 []).tip⟩ : Rec)).cells 40 (0, 0)) :: (0, g) :: (bldMx 40 (recC) [(ofR 0 5 [1]), (ofR 1 5 []), (ofR 2 7 [])] st63)) (fun a => by simp -failIfUnchanged <;> omega) ?_
  refine TE_nil0 ?_
  refine pn_seq ?_
  refine pn_plain [] rfl ?_
  refine TE_q rfl rfl (RD.move rfl) rfl ?_
  refine TE_callG _ ((bs1, .cells #[.string ⟨#[97]⟩, bldVx [(ofR 0 5 [1]), (ofR 1 5 []), (ofR 2 7 [])] st63] 56 (0, 0)) :: (bldMx 40 (recC) [(ofR 0 5 [1]), (ofR 1 5 []), (ofR 2 7 [])] st63)) rfl rfl trivial Tryz.call19 rfl rfl rfl (fun w hw => c_sibTips bs1 ⟨#[97]⟩ (bldVx [(ofR 0 5 [1]), (ofR 1 5 []), (ofR 2 7 [])] st63) (bldMx 40 (recC) [(ofR 0 5 [1]), (ofR 1 5 []), (ofR 2 7 [])] st63) [(ofR 0 5 [1]), (ofR 1 5 []), (ofR 2 7 [])] w ne97 (hRD66.mono (fun _ hw => hw.sp (fun a => by simp -failIfUnchanged <;> omega))) (by intro x hx; simp only [List.mem_cons, List.not_mem_nil, or_false] at hx; rcases hx with rfl | rfl | rfl <;> exact ofR_ok (by decide) (by decide) (vok _ rfl)) (by decide) (hw.sp (fun a => by simp -failIfUnchanged <;> omega))) (fun a => by simp -failIfUnchanged <;> omega) ?_
  rintro v76 H77 ⟨ts69, st71, hset70, hbo72, rfl, rfl⟩ hX73
  have hRD74 : Rdx 32 (idC) (bldMx 38 (idC) ts69 st71) (bldVx ts69 st71) ts69 := hbo72.rdx (u := 38) idC_len
  have hln75 : ts69.length ≤ ([(ofR 0 5 [1]), (ofR 1 5 []), (ofR 2 7 [])]).length := by have h := setOf_len hset70; rw [tipsL_len] at h; have h2 := alL_le ([(ofR 0 5 [1]), (ofR 1 5 []), (ofR 2 7 [])]); omega
  have hahln75 : ts69.length ≤ (alL [(ofR 0 5 [1]), (ofR 1 5 []), (ofR 2 7 [])]).length := by have h := setOf_len hset70; rw [tipsL_len] at h; exact h
  simp only [List.length_cons, List.length_nil] at hln75
  refine TE_sp ((bs1, .cells #[.string ⟨#[97]⟩, bldVx [(ofR 0 5 [1]), (ofR 1 5 []), (ofR 2 7 [])] st63] 56 (0, 0)) :: (b5, .cells (recV (⟨(ofR 1 1 []).s, (ofR 1 1 []).c, (ofR 1 1 []).ctx, ⟨#[98]⟩, (ofR 1 1 []).has, (ofR 1 1 []).tip⟩ : Rec)).cells 40 (0, 0)) :: (0, g) :: ((bldMx 38 (idC) ts69 st71) ++ (bldMx 40 (recC) [(ofR 0 5 [1]), (ofR 1 5 []), (ofR 2 7 [])] st63))) (fun a => by simp -failIfUnchanged <;> omega) ?_
  refine TE_q rfl rfl (RD.assign rfl) rfl ?_
  refine TE_nil0 ?_
  refine pn_seq ?_
  refine pn_plain [] rfl ?_
  refine TE_q rfl rfl (RD.move rfl) rfl ?_
  refine TE_buildSlice (cells := #[.int .u32 2, .int .u32 1]) rfl Tryz.runUnderlying99 Tryz.sizeOf34 Tryz.zeroValue34 rfl rfl rfl (by kernel_rfl) trivial rfl fun b111 hb111 => ?_
  refine TE_callG _ [(b111, .cells #[.int .u32 2, .int .u32 1] 34 (0, 0))] rfl rfl trivial Tryz.call22 rfl rfl rfl (fun w hw => c_of19 3 9 (.slice (some ⟨b111, 0, none⟩) 2 2) [2, 1] [(b111, .cells #[.int .u32 2, .int .u32 1] 34 (0, 0))] w (by omega) ((Rdx.blk (enc := enI .u32) (H := [(b111, .cells #[.int .u32 2, .int .u32 1] 34 (0, 0))]) (xs := [2, 1]) (n := 2) (i := 0) (tl := []) (c := 2) (enI_len .u32) rfl rfl (Nat.le_refl _)).mono (fun _ hw => hw.sp (fun a => by simp -failIfUnchanged <;> omega))) (by decide) (vok _ rfl) (hw.sp (fun a => by simp -failIfUnchanged <;> omega))) (fun a => by simp -failIfUnchanged <;> omega) ?_
  rintro v78 H79 ⟨rfl, rfl⟩ -
  refine TE_callM _ ((bs1, .cells #[.string ⟨#[97]⟩, bldVx [(ofR 0 5 [1]), (ofR 1 5 []), (ofR 2 7 [])] st63] 56 (0, 0)) :: (bldMx 40 (recC) [(ofR 0 5 [1]), (ofR 1 5 []), (ofR 2 7 [])] st63)) ((b111, .cells #[.int .u32 2, .int .u32 1] 34 (0, 0)) :: (b5, .cells (recV (⟨(ofR 1 1 []).s, (ofR 1 1 []).c, (ofR 1 1 []).ctx, ⟨#[98]⟩, (ofR 1 1 []).has, (ofR 1 1 []).tip⟩ : Rec)).cells 40 (0, 0)) :: (0, g) :: (bldMx 38 (idC) ts69 st71)) ((bs1, .cells #[.string ⟨#[97]⟩, bldVx [(ofR 0 5 [1]), (ofR 1 5 []), (ofR 2 7 [])] st63] 56 (0, 0)) :: (0, g) :: (bldMx 40 (recC) [(ofR 0 5 [1]), (ofR 1 5 []), (ofR 2 7 [])] st63)) rfl rfl trivial Tryz.call16 rfl rfl rfl (ownC (.inl (hX2 _ List.mem_cons_self)) (fun e he => hX65 e (List.mem_cons_of_mem _ he))) (fun a => by simp -failIfUnchanged <;> omega) (fun w hw => (by have h := c_sibApplyF bs1 ⟨#[97]⟩ [(ofR 0 5 [1]), (ofR 1 5 []), (ofR 2 7 [])] st63 (ofR 3 9 [2, 1]) g [] w ne97 hbo64 (by intro x hx; simp only [List.mem_cons, List.not_mem_nil, or_false] at hx; rcases hx with rfl | rfl | rfl <;> exact ofR_ok (by decide) (by decide) (vok _ rfl)) (ofR_ok (s := 3) (t := 9) (l := [2, 1]) (by decide) (by decide) (vok _ rfl)) (by show ByteArray.size ⟨#[97]⟩ < 4294967281; decide) (by decide) hg (by show List.Pairwise dlt _; simp only [List.pairwise_cons, List.mem_cons, List.not_mem_nil, or_false, forall_eq_or_imp, forall_eq, dlt_iff, List.Pairwise.nil, and_true, false_implies, implies_true]; decide) (hw.sp (fun a => by simp -failIfUnchanged <;> omega)); rw [show apL ⟨#[97]⟩ [(ofR 0 5 [1]), (ofR 1 5 []), (ofR 2 7 [])] (ofR 3 9 [2, 1]) = [(ofR 2 7 []), (ofR 3 9 [2, 1])] from by kernel_rfl, show apG ⟨#[97]⟩ [(ofR 0 5 [1]), (ofR 1 5 []), (ofR 2 7 [])] (ofR 3 9 [2, 1]) = 2 from by kernel_rfl, show apE ⟨#[97]⟩ [(ofR 0 5 [1]), (ofR 1 5 []), (ofR 2 7 [])] (ofR 3 9 [2, 1]) = 0 from by kernel_rfl] at h; exact h)) (fun a => by simp -failIfUnchanged <;> omega) ?_
  rintro v84 H85 ⟨st80, rfl, hbo81, rfl⟩ hX82
  have hRD83 : Rdx 52 (recC) (bldMx 40 (recC) [(ofR 2 7 []), (ofR 3 9 [2, 1])] st80) (bldVx [(ofR 2 7 []), (ofR 3 9 [2, 1])] st80) [(ofR 2 7 []), (ofR 3 9 [2, 1])] := hbo81.rdx (u := 40) recC_len
  refine TE_sp ((bs1, .cells #[.string ⟨#[97]⟩, bldVx [(ofR 2 7 []), (ofR 3 9 [2, 1])] st80] 56 (0, 0)) :: (b111, .cells #[.int .u32 2, .int .u32 1] 34 (0, 0)) :: (b5, .cells (recV (⟨(ofR 1 1 []).s, (ofR 1 1 []).c, (ofR 1 1 []).ctx, ⟨#[98]⟩, (ofR 1 1 []).has, (ofR 1 1 []).tip⟩ : Rec)).cells 40 (0, 0)) :: (0, g) :: ((bldMx 40 (recC) [(ofR 2 7 []), (ofR 3 9 [2, 1])] st80) ++ (bldMx 38 (idC) ts69 st71))) (fun a => by simp -failIfUnchanged <;> omega) ?_
  refine TE_q rfl rfl (RD.move rfl) rfl ?_
  refine TE_q rfl rfl (RD.extract rfl rfl) rfl ?_
  refine TE_q rfl rfl (RD.extract rfl rfl) rfl ?_
  refine TE_q rfl rfl (RD.assign rfl) rfl ?_
  refine TE_q rfl rfl (RD.assign rfl) rfl ?_
  refine TE_nil0 ?_
  refine pn_seq ?_
  refine pn_plainG [] ((bs1, .cells #[.string ⟨#[97]⟩, bldVx [(ofR 2 7 []), (ofR 3 9 [2, 1])] st80] 56 (0, 0)) :: (b5, .cells (recV (⟨(ofR 1 1 []).s, (ofR 1 1 []).c, (ofR 1 1 []).ctx, ⟨#[98]⟩, (ofR 1 1 []).has, (ofR 1 1 []).tip⟩ : Rec)).cells 40 (0, 0)) :: (0, g) :: ((bldMx 40 (recC) [(ofR 2 7 []), (ofR 3 9 [2, 1])] st80) ++ (bldMx 38 (idC) ts69 st71))) rfl (fun a => by simp -failIfUnchanged <;> omega) ?_
  refine TE_q rfl rfl (RD.move rfl) rfl ?_
  refine TE_q rfl rfl (RD.build (v := idV (fun i => if i = 0 then 5 else 0)) rfl (bd_id1 _)) rfl ?_
  refine TE_q rfl rfl (RD.build (v := idV (fun i => if i = 0 then 7 else 0)) rfl (bd_id1 _)) rfl ?_
  refine TE_buildSlice (cells := (cat idC [(fun i => if i = 0 then 5 else 0), (fun i => if i = 0 then 7 else 0)] ++ []).toArray) rfl Tryz.runUnderlying48 Tryz.sizeOf38 Tryz.zeroValue38 rfl rfl rfl (by kernel_rfl) trivial rfl fun b119 hb119 => ?_
  refine TE_callG _ ((b119, .cells (cat idC [(fun i => if i = 0 then 5 else 0), (fun i => if i = 0 then 7 else 0)] ++ []).toArray 38 (0, 0)) :: (bldMx 38 (idC) ts69 st71)) rfl rfl trivial Tryz.call21 rfl rfl rfl (fun w hw => (by have h := c_r3Same ((b119, .cells (cat idC [(fun i => if i = 0 then 5 else 0), (fun i => if i = 0 then 7 else 0)] ++ []).toArray 38 (0, 0)) :: (bldMx 38 (idC) ts69 st71)) (bldVx ts69 st71) (.slice (some ⟨b119, 0, none⟩) 2 2) ts69 [(fun i => if i = 0 then 5 else 0), (fun i => if i = 0 then 7 else 0)] w (hRD74.mono (fun _ hw => hw.sp (fun a => by simp -failIfUnchanged <;> omega))) ((Rdx.blk (enc := idC) (H := [(b119, .cells (cat idC [(fun i => if i = 0 then 5 else 0), (fun i => if i = 0 then 7 else 0)] ++ []).toArray 38 (0, 0))]) (xs := [(fun i => if i = 0 then 5 else 0), (fun i => if i = 0 then 7 else 0)]) (n := 2) (i := 0) (tl := []) (c := 2) idC_len rfl rfl (Nat.le_refl _)).mono (fun _ hw => hw.sp (fun a => by simp -failIfUnchanged <;> omega))) (by first | assumption | omega | (simp; omega)) (hw.sp (fun a => by simp -failIfUnchanged <;> omega)); rw [show (sameIL ts69 [(fun i => if i = 0 then 5 else 0), (fun i => if i = 0 then 7 else 0)]) = true from al6 (by assumption)] at h; exact h)) (fun a => by simp -failIfUnchanged <;> omega) ?_
  rintro v86 H87 ⟨rfl, rfl⟩ -
  refine TE_q rfl rfl (RD.move rfl) rfl ?_
  refine TE_gq rfl rfl rfl rfl (RD.move rfl) rfl ?_
  refine TE_gq rfl rfl rfl rfl (RD.as (v := .bool true) (RD.eql rfl rfl) rfl) rfl ?_
  refine TE_q rfl rfl (RD.pickT rfl rfl) rfl ?_
  refine TE_q rfl rfl (RD.move rfl) rfl ?_
  refine TE_gq rfl rfl rfl rfl (RD.move rfl) rfl ?_
  refine TE_gq rfl rfl rfl rfl (RD.as (v := .bool true) (RD.eql rfl rfl) rfl) rfl ?_
  refine TE_q rfl rfl (RD.pickT rfl rfl) rfl ?_
  refine TE_q rfl rfl (RD.move rfl) rfl ?_
  refine TE_gq rfl rfl rfl rfl (RD.move rfl) rfl ?_
  refine TE_callG _ ((bs1, .cells #[.string ⟨#[97]⟩, bldVx [(ofR 2 7 []), (ofR 3 9 [2, 1])] st80] 56 (0, 0)) :: (bldMx 40 (recC) [(ofR 2 7 []), (ofR 3 9 [2, 1])] st80)) rfl rfl ⟨_, rfl, rfl⟩ Tryz.call23 rfl rfl rfl (fun w hw => (by have h := c_sibAlive bs1 ⟨#[97]⟩ (bldVx [(ofR 2 7 []), (ofR 3 9 [2, 1])] st80) (bldMx 40 (recC) [(ofR 2 7 []), (ofR 3 9 [2, 1])] st80) [(ofR 2 7 []), (ofR 3 9 [2, 1])] w ne97 (hRD83.mono (fun _ hw => hw.sp (fun a => by simp -failIfUnchanged <;> omega))) (by intro x hx; simp only [List.mem_cons, List.not_mem_nil, or_false] at hx; rcases hx with rfl | rfl <;> exact ofR_ok (by decide) (by decide) (vok _ rfl)) (by decide) (hw.sp (fun a => by simp -failIfUnchanged <;> omega)); rw [show alL [(ofR 2 7 []), (ofR 3 9 [2, 1])] = [(ofR 2 7 []), (ofR 3 9 [2, 1])] from by kernel_rfl] at h; exact h)) (fun a => by simp -failIfUnchanged <;> omega) ?_
  rintro v92 H93 ⟨st88, hbo89, rfl, rfl⟩ hX90
  have hRD91 : Rdx 52 (recC) (bldMx 40 (recC) [(ofR 2 7 []), (ofR 3 9 [2, 1])] st88) (bldVx [(ofR 2 7 []), (ofR 3 9 [2, 1])] st88) [(ofR 2 7 []), (ofR 3 9 [2, 1])] := hbo89.rdx (u := 40) recC_len
  refine TE_sp ((b119, .cells (cat idC [(fun i => if i = 0 then 5 else 0), (fun i => if i = 0 then 7 else 0)] ++ []).toArray 38 (0, 0)) :: (bs1, .cells #[.string ⟨#[97]⟩, bldVx [(ofR 2 7 []), (ofR 3 9 [2, 1])] st80] 56 (0, 0)) :: (b5, .cells (recV (⟨(ofR 1 1 []).s, (ofR 1 1 []).c, (ofR 1 1 []).ctx, ⟨#[98]⟩, (ofR 1 1 []).has, (ofR 1 1 []).tip⟩ : Rec)).cells 40 (0, 0)) :: (0, g) :: ((bldMx 40 (recC) [(ofR 2 7 []), (ofR 3 9 [2, 1])] st88) ++ ((bldMx 40 (recC) [(ofR 2 7 []), (ofR 3 9 [2, 1])] st80) ++ (bldMx 38 (idC) ts69 st71)))) (fun a => by simp -failIfUnchanged <;> omega) ?_
  refine TE_callG _ [] rfl rfl ⟨_, rfl, rfl⟩ Tryz.call22 rfl rfl rfl (fun w hw => c_of19 2 7 (.slice none 0 0) [] [] w (by omega) Rdx.nil (by decide) (vok _ rfl) (hw.sp (fun a => by simp -failIfUnchanged <;> omega))) (fun a => by simp -failIfUnchanged <;> omega) ?_
  rintro v94 H95 ⟨rfl, rfl⟩ -
  refine TE_buildSlice (cells := #[.int .u32 2, .int .u32 1]) rfl Tryz.runUnderlying99 Tryz.sizeOf34 Tryz.zeroValue34 rfl rfl rfl (by kernel_rfl) ⟨_, rfl, rfl⟩ rfl fun b133 hb133 => ?_
  refine TE_callG _ [(b133, .cells #[.int .u32 2, .int .u32 1] 34 (0, 0))] rfl rfl ⟨_, rfl, rfl⟩ Tryz.call22 rfl rfl rfl (fun w hw => c_of19 3 9 (.slice (some ⟨b133, 0, none⟩) 2 2) [2, 1] [(b133, .cells #[.int .u32 2, .int .u32 1] 34 (0, 0))] w (by omega) ((Rdx.blk (enc := enI .u32) (H := [(b133, .cells #[.int .u32 2, .int .u32 1] 34 (0, 0))]) (xs := [2, 1]) (n := 2) (i := 0) (tl := []) (c := 2) (enI_len .u32) rfl rfl (Nat.le_refl _)).mono (fun _ hw => hw.sp (fun a => by simp -failIfUnchanged <;> omega))) (by decide) (vok _ rfl) (hw.sp (fun a => by simp -failIfUnchanged <;> omega))) (fun a => by simp -failIfUnchanged <;> omega) ?_
  rintro v96 H97 ⟨rfl, rfl⟩ -
  refine TE_buildSlice (cells := (cat recC [(ofR 2 7 []), (ofR 3 9 [2, 1])] ++ []).toArray) rfl Tryz.runUnderlying22 Tryz.sizeOf40 Tryz.zeroValue40 rfl rfl rfl (by kernel_rfl) ⟨_, rfl, rfl⟩ rfl fun b135 hb135 => ?_
  refine TE_callG _ ((b135, .cells (cat recC [(ofR 2 7 []), (ofR 3 9 [2, 1])] ++ []).toArray 40 (0, 0)) :: (bldMx 40 (recC) [(ofR 2 7 []), (ofR 3 9 [2, 1])] st88)) rfl rfl ⟨_, rfl, rfl⟩ Tryz.call12 rfl rfl rfl (fun w hw => (by have h := c_r12Same ((b135, .cells (cat recC [(ofR 2 7 []), (ofR 3 9 [2, 1])] ++ []).toArray 40 (0, 0)) :: (bldMx 40 (recC) [(ofR 2 7 []), (ofR 3 9 [2, 1])] st88)) (bldVx [(ofR 2 7 []), (ofR 3 9 [2, 1])] st88) (.slice (some ⟨b135, 0, none⟩) 2 2) [(ofR 2 7 []), (ofR 3 9 [2, 1])] [(ofR 2 7 []), (ofR 3 9 [2, 1])] w (hRD91.mono (fun _ hw => hw.sp (fun a => by simp -failIfUnchanged <;> omega))) ((Rdx.blk (enc := recC) (H := [(b135, .cells (cat recC [(ofR 2 7 []), (ofR 3 9 [2, 1])] ++ []).toArray 40 (0, 0))]) (xs := [(ofR 2 7 []), (ofR 3 9 [2, 1])]) (n := 2) (i := 0) (tl := []) (c := 2) recC_len rfl rfl (Nat.le_refl _)).mono (fun _ hw => hw.sp (fun a => by simp -failIfUnchanged <;> omega))) (by decide) (hw.sp (fun a => by simp -failIfUnchanged <;> omega)); rw [show (sameLB [(ofR 2 7 []), (ofR 3 9 [2, 1])] [(ofR 2 7 []), (ofR 3 9 [2, 1])]) = true from sameLB_self _] at h; exact h)) (fun a => by simp -failIfUnchanged <;> omega) ?_
  rintro v98 H99 ⟨rfl, rfl⟩ -
  refine TE_q rfl rfl (RD.pickT rfl rfl) rfl ?_
  refine TE_q rfl rfl (RD.move rfl) rfl ?_
  refine TE_gq rfl rfl rfl rfl (RD.move rfl) rfl ?_
  refine TE_callG _ [(bs1, .cells #[.string ⟨#[97]⟩, bldVx [(ofR 2 7 []), (ofR 3 9 [2, 1])] st80] 56 (0, 0))] rfl rfl ⟨_, rfl, rfl⟩ Tryz.call24 rfl rfl rfl (fun w hw => c_sibRef bs1 ⟨#[97]⟩ (bldVx [(ofR 2 7 []), (ofR 3 9 [2, 1])] st80) w ne97 (hw.sp (fun a => by simp -failIfUnchanged <;> omega))) (fun a => by simp -failIfUnchanged <;> omega) ?_
  rintro v100 H101 ⟨rfl, rfl⟩ -
  refine TE_gq rfl rfl rfl rfl (RD.as (v := .bool true) (RD.eql_string rfl rfl) (congrArg Value.bool (by decide))) rfl ?_
  refine TE_q rfl rfl (RD.pickT rfl rfl) rfl ?_
  refine TE_q rfl rfl (RD.assign rfl) rfl ?_
  refine TE_nil0 ?_
  refine pn_seq ?_
  refine pn_plainG [] [(b5, .cells (recV (⟨(ofR 1 1 []).s, (ofR 1 1 []).c, (ofR 1 1 []).ctx, ⟨#[98]⟩, (ofR 1 1 []).has, (ofR 1 1 []).tip⟩ : Rec)).cells 40 (0, 0)), (0, g)] rfl (fun a => by simp -failIfUnchanged <;> omega) ?_
  refine TE_callG _ [(0, g)] rfl rfl trivial Tryz.call15 rfl rfl rfl (fun w hw => c_sibNewF ⟨#[97, 32, 98]⟩ g w hg (by decide) (by rw [show breaksN ⟨#[97, 32, 98]⟩ = 2 from by kernel_rfl]; decide) (hw.sp (fun a => by simp -failIfUnchanged <;> omega))) (fun a => by simp -failIfUnchanged <;> omega) ?_
  rintro v102 H103 ⟨rfl, rfl⟩ -
  refine TE_q rfl rfl (RD.move rfl) rfl ?_
  refine TE_q rfl rfl (RD.extract rfl rfl) rfl ?_
  refine TE_q rfl rfl (RD.extract rfl rfl) rfl ?_
  refine TE_q rfl rfl (RD.assign rfl) rfl ?_
  refine TE_q rfl rfl (RD.assign rfl) rfl ?_
  refine TE_nil0 ?_
  refine pn_seq ?_
  refine pn_plain [] rfl ?_
  refine TE_callG _ [(0, g)] rfl rfl trivial Tryz.call10 rfl rfl rfl (fun w hw => c_sibLoadF [] (.slice none 0 0) [] g w Rdx.nil (by simp) (by simp) (by decide) hg (hw.sp (fun a => by simp -failIfUnchanged <;> omega)) (by rw [loadOk_iff]; exact (show ¬ loadB [] = true from by rw [show loadB [] = false from by kernel_rfl]; decide))) (fun a => by simp -failIfUnchanged <;> omega) ?_
  rintro v104 H105 ⟨rfl, rfl⟩ -
  refine TE_q rfl rfl (RD.move rfl) rfl ?_
  refine TE_q rfl rfl (RD.extract rfl rfl) rfl ?_
  refine TE_q rfl rfl (RD.extract rfl rfl) rfl ?_
  refine TE_q rfl rfl (RD.assign rfl) rfl ?_
  refine TE_q rfl rfl (RD.assign rfl) rfl ?_
  refine TE_nil0 ?_
  refine pn_seq ?_
  refine pn_plain [] rfl ?_
  refine TE_callG _ [] rfl rfl trivial Tryz.call22 rfl rfl rfl (fun w hw => c_of19 1 1 (.slice none 0 0) [] [] w (by omega) Rdx.nil (by decide) (vok _ rfl) (hw.sp (fun a => by simp -failIfUnchanged <;> omega))) (fun a => by simp -failIfUnchanged <;> omega) ?_
  rintro v106 H107 ⟨rfl, rfl⟩ -
  refine TE_callG _ [] rfl rfl trivial Tryz.call22 rfl rfl rfl (fun w hw => c_of19 0 1 (.slice none 0 0) [] [] w (by omega) Rdx.nil (by decide) (vok _ rfl) (hw.sp (fun a => by simp -failIfUnchanged <;> omega))) (fun a => by simp -failIfUnchanged <;> omega) ?_
  rintro v108 H109 ⟨rfl, rfl⟩ -
  refine TE_buildSlice (cells := (cat recC [(ofR 1 1 []), (ofR 0 1 [])] ++ []).toArray) rfl Tryz.runUnderlying22 Tryz.sizeOf40 Tryz.zeroValue40 rfl rfl rfl (by kernel_rfl) trivial rfl fun b154 hb154 => ?_
  refine TE_callG _ [(b154, .cells (cat recC [(ofR 1 1 []), (ofR 0 1 [])] ++ []).toArray 40 (0, 0)), (0, g)] rfl rfl trivial Tryz.call10 rfl rfl rfl (fun w hw => c_sibLoadF [(b154, .cells (cat recC [(ofR 1 1 []), (ofR 0 1 [])] ++ []).toArray 40 (0, 0))] (.slice (some ⟨b154, 0, none⟩) 2 2) [(ofR 1 1 []), (ofR 0 1 [])] g w ((Rdx.blk (enc := recC) (H := [(b154, .cells (cat recC [(ofR 1 1 []), (ofR 0 1 [])] ++ []).toArray 40 (0, 0))]) (xs := [(ofR 1 1 []), (ofR 0 1 [])]) (n := 2) (i := 0) (tl := []) (c := 2) recC_len rfl rfl (Nat.le_refl _)).mono (fun _ hw => hw.sp (fun a => by simp -failIfUnchanged <;> omega))) (by intro x hx; simp only [List.mem_cons, List.not_mem_nil, or_false] at hx; rcases hx with rfl | rfl <;> exact ofR_ok (by decide) (by decide) (vok _ rfl)) (by intro x hx; simp only [List.mem_cons, List.not_mem_nil, or_false] at hx; rcases hx with rfl | rfl <;> decide) (by decide) hg (hw.sp (fun a => by simp -failIfUnchanged <;> omega)) (by rw [loadOk_iff]; exact (show ¬ loadB [(ofR 1 1 []), (ofR 0 1 [])] = true from by rw [show loadB [(ofR 1 1 []), (ofR 0 1 [])] = false from by kernel_rfl]; decide))) (fun a => by simp -failIfUnchanged <;> omega) ?_
  rintro v110 H111 ⟨rfl, rfl⟩ -
  refine TE_q rfl rfl (RD.move rfl) rfl ?_
  refine TE_q rfl rfl (RD.extract rfl rfl) rfl ?_
  refine TE_q rfl rfl (RD.extract rfl rfl) rfl ?_
  refine TE_q rfl rfl (RD.assign rfl) rfl ?_
  refine TE_q rfl rfl (RD.assign rfl) rfl ?_
  refine TE_nil0 ?_
  refine pn_seq ?_
  refine pn_plainG [] [(b5, .cells (recV (⟨(ofR 1 1 []).s, (ofR 1 1 []).c, (ofR 1 1 []).ctx, ⟨#[98]⟩, (ofR 1 1 []).has, (ofR 1 1 []).tip⟩ : Rec)).cells 40 (0, 0)), (0, g)] rfl (fun a => by simp -failIfUnchanged <;> omega) ?_
  refine TE_callG _ [] rfl rfl trivial Tryz.call22 rfl rfl rfl (fun w hw => c_of19 0 1 (.slice none 0 0) [] [] w (by omega) Rdx.nil (by decide) (vok _ rfl) (hw.sp (fun a => by simp -failIfUnchanged <;> omega))) (fun a => by simp -failIfUnchanged <;> omega) ?_
  rintro v112 H113 ⟨rfl, rfl⟩ -
  refine TE_buildSlice (cells := #[.int .u32 1]) rfl Tryz.runUnderlying99 Tryz.sizeOf34 Tryz.zeroValue34 rfl rfl rfl (by kernel_rfl) trivial rfl fun b160 hb160 => ?_
  refine TE_callG _ [(b160, .cells #[.int .u32 1] 34 (0, 0))] rfl rfl trivial Tryz.call22 rfl rfl rfl (fun w hw => c_of19 1 1 (.slice (some ⟨b160, 0, none⟩) 1 1) [1] [(b160, .cells #[.int .u32 1] 34 (0, 0))] w (by omega) ((Rdx.blk (enc := enI .u32) (H := [(b160, .cells #[.int .u32 1] 34 (0, 0))]) (xs := [1]) (n := 1) (i := 0) (tl := []) (c := 1) (enI_len .u32) rfl rfl (Nat.le_refl _)).mono (fun _ hw => hw.sp (fun a => by simp -failIfUnchanged <;> omega))) (by decide) (vok _ rfl) (hw.sp (fun a => by simp -failIfUnchanged <;> omega))) (fun a => by simp -failIfUnchanged <;> omega) ?_
  rintro v114 H115 ⟨rfl, rfl⟩ -
  refine TE_buildSlice (cells := (cat recC [(ofR 0 1 []), (ofR 1 1 [1])] ++ []).toArray) rfl Tryz.runUnderlying22 Tryz.sizeOf40 Tryz.zeroValue40 rfl rfl rfl (by kernel_rfl) trivial rfl fun b162 hb162 => ?_
  refine TE_callG _ [(b162, .cells (cat recC [(ofR 0 1 []), (ofR 1 1 [1])] ++ []).toArray 40 (0, 0)), (0, g)] rfl rfl trivial Tryz.call10 rfl rfl rfl (fun w hw => c_sibLoadF [(b162, .cells (cat recC [(ofR 0 1 []), (ofR 1 1 [1])] ++ []).toArray 40 (0, 0))] (.slice (some ⟨b162, 0, none⟩) 2 2) [(ofR 0 1 []), (ofR 1 1 [1])] g w ((Rdx.blk (enc := recC) (H := [(b162, .cells (cat recC [(ofR 0 1 []), (ofR 1 1 [1])] ++ []).toArray 40 (0, 0))]) (xs := [(ofR 0 1 []), (ofR 1 1 [1])]) (n := 2) (i := 0) (tl := []) (c := 2) recC_len rfl rfl (Nat.le_refl _)).mono (fun _ hw => hw.sp (fun a => by simp -failIfUnchanged <;> omega))) (by intro x hx; simp only [List.mem_cons, List.not_mem_nil, or_false] at hx; rcases hx with rfl | rfl <;> exact ofR_ok (by decide) (by decide) (vok _ rfl)) (by intro x hx; simp only [List.mem_cons, List.not_mem_nil, or_false] at hx; rcases hx with rfl | rfl <;> decide) (by decide) hg (hw.sp (fun a => by simp -failIfUnchanged <;> omega)) (by rw [loadOk_iff]; exact (show ¬ loadB [(ofR 0 1 []), (ofR 1 1 [1])] = true from by rw [show loadB [(ofR 0 1 []), (ofR 1 1 [1])] = false from by kernel_rfl]; decide))) (fun a => by simp -failIfUnchanged <;> omega) ?_
  rintro v116 H117 ⟨rfl, rfl⟩ -
  refine TE_q rfl rfl (RD.move rfl) rfl ?_
  refine TE_q rfl rfl (RD.extract rfl rfl) rfl ?_
  refine TE_q rfl rfl (RD.extract rfl rfl) rfl ?_
  refine TE_q rfl rfl (RD.assign rfl) rfl ?_
  refine TE_q rfl rfl (RD.assign rfl) rfl ?_
  refine TE_nil0 ?_
  refine pn_seq ?_
  refine pn_drawG [1] [] [(b5, .cells (recV (⟨(ofR 1 1 []).s, (ofR 1 1 []).c, (ofR 1 1 []).ctx, ⟨#[98]⟩, (ofR 1 1 []).has, (ofR 1 1 []).tip⟩ : Rec)).cells 40 (0, 0)), (0, g)] rfl rfl (by kernel_rfl) (fun a => by simp -failIfUnchanged <;> omega) ?_
  refine TE_callG _ [] rfl rfl trivial Tryz.call22 rfl rfl rfl (fun w hw => c_of19 0 1 (.slice none 0 0) [] [] w (by omega) Rdx.nil (by decide) (vok _ rfl) (hw.sp (fun a => by simp -failIfUnchanged <;> omega))) (fun a => by simp -failIfUnchanged <;> omega) ?_
  rintro v118 H119 ⟨rfl, rfl⟩ -
  refine TE_q rfl rfl (RD.loadA (i := 0) Tryz.isAgg40 Tryz.sizeOf40 rfl rfl (Nat.le_of_ble_eq_true rfl) (rec_all _)) rfl ?_
  refine TE_buildSlice (cells := (cat recC [(ofR 0 1 []), (⟨(ofR 1 1 []).s, (ofR 1 1 []).c, (ofR 1 1 []).ctx, ⟨#[98]⟩, (ofR 1 1 []).has, (ofR 1 1 []).tip⟩ : Rec)] ++ []).toArray) rfl Tryz.runUnderlying22 Tryz.sizeOf40 Tryz.zeroValue40 rfl rfl rfl (by kernel_rfl) trivial rfl fun b169 hb169 => ?_
  refine TE_callG _ [(b169, .cells (cat recC [(ofR 0 1 []), (⟨(ofR 1 1 []).s, (ofR 1 1 []).c, (ofR 1 1 []).ctx, ⟨#[98]⟩, (ofR 1 1 []).has, (ofR 1 1 []).tip⟩ : Rec)] ++ []).toArray 40 (0, 0)), (0, g)] rfl rfl trivial Tryz.call10 rfl rfl rfl (fun w hw => c_sibLoadF [(b169, .cells (cat recC [(ofR 0 1 []), (⟨(ofR 1 1 []).s, (ofR 1 1 []).c, (ofR 1 1 []).ctx, ⟨#[98]⟩, (ofR 1 1 []).has, (ofR 1 1 []).tip⟩ : Rec)] ++ []).toArray 40 (0, 0))] (.slice (some ⟨b169, 0, none⟩) 2 2) [(ofR 0 1 []), (⟨(ofR 1 1 []).s, (ofR 1 1 []).c, (ofR 1 1 []).ctx, ⟨#[98]⟩, (ofR 1 1 []).has, (ofR 1 1 []).tip⟩ : Rec)] g w ((Rdx.blk (enc := recC) (H := [(b169, .cells (cat recC [(ofR 0 1 []), (⟨(ofR 1 1 []).s, (ofR 1 1 []).c, (ofR 1 1 []).ctx, ⟨#[98]⟩, (ofR 1 1 []).has, (ofR 1 1 []).tip⟩ : Rec)] ++ []).toArray 40 (0, 0))]) (xs := [(ofR 0 1 []), (⟨(ofR 1 1 []).s, (ofR 1 1 []).c, (ofR 1 1 []).ctx, ⟨#[98]⟩, (ofR 1 1 []).has, (ofR 1 1 []).tip⟩ : Rec)]) (n := 2) (i := 0) (tl := []) (c := 2) recC_len rfl rfl (Nat.le_refl _)).mono (fun _ hw => hw.sp (fun a => by simp -failIfUnchanged <;> omega))) (by intro x hx; simp only [List.mem_cons, List.not_mem_nil, or_false] at hx; rcases hx with rfl | rfl; exact (ofR_ok (s := 0) (t := 1) (l := []) (by decide) (by decide) (vok _ rfl)); exact ⟨((ofR_ok (s := 1) (t := 1) (l := []) (by decide) (by decide) (vok _ rfl))).s, ((ofR_ok (s := 1) (t := 1) (l := []) (by decide) (by decide) (vok _ rfl))).c, ((ofR_ok (s := 1) (t := 1) (l := []) (by decide) (by decide) (vok _ rfl))).ctx, ((ofR_ok (s := 1) (t := 1) (l := []) (by decide) (by decide) (vok _ rfl))).tip⟩) (by intro x hx; simp only [List.mem_cons, List.not_mem_nil, or_false] at hx; rcases hx with rfl | rfl <;> decide) (by decide) hg (hw.sp (fun a => by simp -failIfUnchanged <;> omega)) (by rw [loadOk_iff]; exact (show ¬ loadB [(ofR 0 1 []), (⟨(ofR 1 1 []).s, (ofR 1 1 []).c, (ofR 1 1 []).ctx, ⟨#[98]⟩, (ofR 1 1 []).has, (ofR 1 1 []).tip⟩ : Rec)] = true from by rw [show loadB [(ofR 0 1 []), (⟨(ofR 1 1 []).s, (ofR 1 1 []).c, (ofR 1 1 []).ctx, ⟨#[98]⟩, (ofR 1 1 []).has, (ofR 1 1 []).tip⟩ : Rec)] = false from by kernel_rfl]; decide))) (fun a => by simp -failIfUnchanged <;> omega) ?_
  rintro v120 H121 ⟨rfl, rfl⟩ -
  refine TE_q rfl rfl (RD.move rfl) rfl ?_
  refine TE_q rfl rfl (RD.extract rfl rfl) rfl ?_
  refine TE_q rfl rfl (RD.extract rfl rfl) rfl ?_
  refine TE_q rfl rfl (RD.assign rfl) rfl ?_
  refine TE_q rfl rfl (RD.assign rfl) rfl ?_
  refine TE_nil ?_
  refine pn_seq ?_
  refine pn_plainG [] [(0, g)] rfl (fun a => by simp -failIfUnchanged <;> omega) ?_
  refine TE_callG _ [] rfl rfl trivial Tryz.call22 rfl rfl rfl (fun w hw => c_of19 0 1 (.slice none 0 0) [] [] w (by omega) Rdx.nil (by decide) (vok _ rfl) (hw.sp (fun a => by simp -failIfUnchanged <;> omega))) (fun a => by simp -failIfUnchanged <;> omega) ?_
  rintro v122 H123 ⟨rfl, rfl⟩ -
  refine TE_callG _ [] rfl rfl trivial Tryz.call22 rfl rfl rfl (fun w hw => c_of19 0 1 (.slice none 0 0) [] [] w (by omega) Rdx.nil (by decide) (vok _ rfl) (hw.sp (fun a => by simp -failIfUnchanged <;> omega))) (fun a => by simp -failIfUnchanged <;> omega) ?_
  rintro v124 H125 ⟨rfl, rfl⟩ -
  refine TE_buildSlice (cells := (cat recC [(ofR 0 1 []), (ofR 0 1 [])] ++ []).toArray) rfl Tryz.runUnderlying22 Tryz.sizeOf40 Tryz.zeroValue40 rfl rfl rfl (by kernel_rfl) trivial rfl fun b176 hb176 => ?_
  refine TE_callG _ [(b176, .cells (cat recC [(ofR 0 1 []), (ofR 0 1 [])] ++ []).toArray 40 (0, 0)), (0, g)] rfl rfl trivial Tryz.call10 rfl rfl rfl (fun w hw => c_sibLoadF [(b176, .cells (cat recC [(ofR 0 1 []), (ofR 0 1 [])] ++ []).toArray 40 (0, 0))] (.slice (some ⟨b176, 0, none⟩) 2 2) [(ofR 0 1 []), (ofR 0 1 [])] g w ((Rdx.blk (enc := recC) (H := [(b176, .cells (cat recC [(ofR 0 1 []), (ofR 0 1 [])] ++ []).toArray 40 (0, 0))]) (xs := [(ofR 0 1 []), (ofR 0 1 [])]) (n := 2) (i := 0) (tl := []) (c := 2) recC_len rfl rfl (Nat.le_refl _)).mono (fun _ hw => hw.sp (fun a => by simp -failIfUnchanged <;> omega))) (by intro x hx; simp only [List.mem_cons, List.not_mem_nil, or_false] at hx; rcases hx with rfl | rfl <;> exact ofR_ok (by decide) (by decide) (vok _ rfl)) (by intro x hx; simp only [List.mem_cons, List.not_mem_nil, or_false] at hx; rcases hx with rfl | rfl <;> decide) (by decide) hg (hw.sp (fun a => by simp -failIfUnchanged <;> omega)) (by rw [loadOk_iff]; exact (show ¬ loadB [(ofR 0 1 []), (ofR 0 1 [])] = true from by rw [show loadB [(ofR 0 1 []), (ofR 0 1 [])] = false from by kernel_rfl]; decide))) (fun a => by simp -failIfUnchanged <;> omega) ?_
  rintro v126 H127 ⟨rfl, rfl⟩ -
  refine TE_q rfl rfl (RD.move rfl) rfl ?_
  refine TE_q rfl rfl (RD.extract rfl rfl) rfl ?_
  refine TE_q rfl rfl (RD.extract rfl rfl) rfl ?_
  refine TE_q rfl rfl (RD.assign rfl) rfl ?_
  refine TE_q rfl rfl (RD.assign rfl) rfl ?_
  refine TE_nil0 ?_
  refine pn_seq ?_
  refine pn_plainG [] [(0, g)] rfl (fun a => by simp -failIfUnchanged <;> omega) ?_
  refine TE_callG _ [] rfl rfl trivial Tryz.call22 rfl rfl rfl (fun w hw => c_of19 0 1 (.slice none 0 0) [] [] w (by omega) Rdx.nil (by decide) (vok _ rfl) (hw.sp (fun a => by simp -failIfUnchanged <;> omega))) (fun a => by simp -failIfUnchanged <;> omega) ?_
  rintro v128 H129 ⟨rfl, rfl⟩ -
  refine TE_callG _ [] rfl rfl trivial Tryz.call22 rfl rfl rfl (fun w hw => c_of19 1 0 (.slice none 0 0) [] [] w (by omega) Rdx.nil (by decide) (vok _ rfl) (hw.sp (fun a => by simp -failIfUnchanged <;> omega))) (fun a => by simp -failIfUnchanged <;> omega) ?_
  rintro v130 H131 ⟨rfl, rfl⟩ -
  refine TE_buildSlice (cells := (cat recC [(ofR 0 1 []), (ofR 1 0 [])] ++ []).toArray) rfl Tryz.runUnderlying22 Tryz.sizeOf40 Tryz.zeroValue40 rfl rfl rfl (by kernel_rfl) trivial rfl fun b183 hb183 => ?_
  refine TE_callG _ [(b183, .cells (cat recC [(ofR 0 1 []), (ofR 1 0 [])] ++ []).toArray 40 (0, 0)), (0, g)] rfl rfl trivial Tryz.call10 rfl rfl rfl (fun w hw => (by have h := c_sibLoadT [(b183, .cells (cat recC [(ofR 0 1 []), (ofR 1 0 [])] ++ []).toArray 40 (0, 0))] (.slice (some ⟨b183, 0, none⟩) 2 2) [(ofR 0 1 []), (ofR 1 0 [])] g w ((Rdx.blk (enc := recC) (H := [(b183, .cells (cat recC [(ofR 0 1 []), (ofR 1 0 [])] ++ []).toArray 40 (0, 0))]) (xs := [(ofR 0 1 []), (ofR 1 0 [])]) (n := 2) (i := 0) (tl := []) (c := 2) recC_len rfl rfl (Nat.le_refl _)).mono (fun _ hw => hw.sp (fun a => by simp -failIfUnchanged <;> omega))) (by intro x hx; simp only [List.mem_cons, List.not_mem_nil, or_false] at hx; rcases hx with rfl | rfl <;> exact ofR_ok (by decide) (by decide) (vok _ rfl)) (by intro x hx; simp only [List.mem_cons, List.not_mem_nil, or_false] at hx; rcases hx with rfl | rfl <;> decide) (by decide) hg (hw.sp (fun a => by simp -failIfUnchanged <;> omega)) (loadOk_iff.2 (by kernel_rfl)); rw [show refL [(ofR 0 1 []), (ofR 1 0 [])] = ⟨#[97]⟩ from rfl] at h; exact h)) (fun a => by simp -failIfUnchanged <;> omega) ?_
  rintro v137 H138 ⟨bs132, st133, hbo134, rfl, rfl⟩ hX135
  have hRD136 : Rdx 52 (recC) (bldMx 40 (recC) [(ofR 0 1 []), (ofR 1 0 [])] st133) (bldVx [(ofR 0 1 []), (ofR 1 0 [])] st133) [(ofR 0 1 []), (ofR 1 0 [])] := hbo134.rdx (u := 40) recC_len
  refine TE_sp ((bs132, .cells #[.string ⟨#[97]⟩, bldVx [(ofR 0 1 []), (ofR 1 0 [])] st133] 56 (0, 0)) :: (b183, .cells (cat recC [(ofR 0 1 []), (ofR 1 0 [])] ++ []).toArray 40 (0, 0)) :: (0, g) :: (bldMx 40 (recC) [(ofR 0 1 []), (ofR 1 0 [])] st133)) (fun a => by simp -failIfUnchanged <;> omega) ?_
  refine TE_q rfl rfl (RD.move rfl) rfl ?_
  refine TE_q rfl rfl (RD.extract rfl rfl) rfl ?_
  refine TE_q rfl rfl (RD.extract rfl rfl) rfl ?_
  refine TE_q rfl rfl (RD.assign rfl) rfl ?_
  refine TE_q rfl rfl (RD.assign rfl) rfl ?_
  refine TE_nil0 ?_
  refine pn_seq ?_
  refine pn_plainG [29, 35] ((bs132, .cells #[.string ⟨#[97]⟩, bldVx [(ofR 0 1 []), (ofR 1 0 [])] st133] 56 (0, 0)) :: (0, g) :: (bldMx 40 (recC) [(ofR 0 1 []), (ofR 1 0 [])] st133)) rfl (fun a => by simp -failIfUnchanged <;> omega) ?_
  refine TE_q rfl rfl (RD.move rfl) rfl ?_
  refine TE_q rfl rfl (RD.as (v := .bool true) (RD.eql rfl rfl) rfl) rfl ?_
  refine TE_q rfl rfl (RD.move rfl) rfl ?_
  refine TE_gq rfl rfl rfl rfl (RD.move rfl) rfl ?_
  refine TE_gq rfl rfl rfl rfl (RD.as (v := .bool true) (RD.eql rfl rfl) rfl) rfl ?_
  refine TE_q rfl rfl (RD.pickT rfl rfl) rfl ?_
  refine TE_q rfl rfl (RD.move rfl) rfl ?_
  refine TE_gq rfl rfl rfl rfl (RD.move rfl) rfl ?_
  refine TE_gq rfl rfl rfl rfl (RD.as (v := .bool true) (RD.eql rfl rfl) rfl) rfl ?_
  refine TE_q rfl rfl (RD.pickT rfl rfl) rfl ?_
  refine TE_q rfl rfl (RD.move rfl) rfl ?_
  refine TE_gq rfl rfl rfl rfl (RD.move rfl) rfl ?_
  refine TE_gq rfl rfl rfl rfl (RD.as (v := .bool true) (RD.eql rfl rfl) rfl) rfl ?_
  refine TE_q rfl rfl (RD.pickT rfl rfl) rfl ?_
  refine TE_q rfl rfl (RD.move rfl) rfl ?_
  refine TE_gq rfl rfl rfl rfl (RD.move rfl) rfl ?_
  refine TE_gq rfl rfl rfl rfl (RD.as (v := .bool true) (RD.eql rfl rfl) rfl) rfl ?_
  refine TE_q rfl rfl (RD.pickT rfl rfl) rfl ?_
  refine TE_q rfl rfl (RD.move rfl) rfl ?_
  refine TE_gq rfl rfl rfl rfl (RD.move rfl) rfl ?_
  refine TE_gq rfl rfl rfl rfl (RD.as (v := .bool true) (RD.eql rfl rfl) rfl) rfl ?_
  refine TE_q rfl rfl (RD.pickT rfl rfl) rfl ?_
  refine TE_q rfl rfl (RD.move rfl) rfl ?_
  refine TE_gq rfl rfl rfl rfl (RD.move rfl) rfl ?_
  refine TE_gq rfl rfl rfl rfl (RD.as (v := .bool true) (RD.eql rfl rfl) rfl) rfl ?_
  refine TE_q rfl rfl (RD.pickT rfl rfl) rfl ?_
  refine TE_q rfl rfl (RD.move rfl) rfl ?_
  refine TE_gq rfl rfl rfl rfl (RD.move rfl) rfl ?_
  refine TE_callG _ ((bs132, .cells #[.string ⟨#[97]⟩, bldVx [(ofR 0 1 []), (ofR 1 0 [])] st133] 56 (0, 0)) :: (bldMx 40 (recC) [(ofR 0 1 []), (ofR 1 0 [])] st133)) rfl rfl ⟨_, rfl, rfl⟩ Tryz.call17 rfl rfl rfl (fun w hw => c_sibAll bs132 ⟨#[97]⟩ (bldVx [(ofR 0 1 []), (ofR 1 0 [])] st133) (bldMx 40 (recC) [(ofR 0 1 []), (ofR 1 0 [])] st133) [(ofR 0 1 []), (ofR 1 0 [])] w ne97 (hRD136.mono (fun _ hw => hw.sp (fun a => by simp -failIfUnchanged <;> omega))) (by intro x hx; simp only [List.mem_cons, List.not_mem_nil, or_false] at hx; rcases hx with rfl | rfl <;> exact ofR_ok (by decide) (by decide) (vok _ rfl)) (by decide) (hw.sp (fun a => by simp -failIfUnchanged <;> omega))) (fun a => by simp -failIfUnchanged <;> omega) ?_
  rintro v143 H144 ⟨st139, hbo140, rfl, rfl⟩ hX141
  have hRD142 : Rdx 52 (recC) (bldMx 40 (recC) [(ofR 0 1 []), (ofR 1 0 [])] st139) (bldVx [(ofR 0 1 []), (ofR 1 0 [])] st139) [(ofR 0 1 []), (ofR 1 0 [])] := hbo140.rdx (u := 40) recC_len
  refine TE_sp ((bs132, .cells #[.string ⟨#[97]⟩, bldVx [(ofR 0 1 []), (ofR 1 0 [])] st133] 56 (0, 0)) :: (0, g) :: ((bldMx 40 (recC) [(ofR 0 1 []), (ofR 1 0 [])] st139) ++ (bldMx 40 (recC) [(ofR 0 1 []), (ofR 1 0 [])] st133))) (fun a => by simp -failIfUnchanged <;> omega) ?_
  refine TE_gq rfl rfl rfl rfl (RD.as (v := .int .i64 2) (RD.lenX Tryz.runUnderlying22 rfl hRD142) rfl) rfl ?_
  refine TE_gq rfl rfl rfl rfl (RD.as (v := .bool true) (RD.eql rfl rfl) rfl) rfl ?_
  refine TE_q rfl rfl (RD.pickT rfl rfl) rfl ?_
  refine TE_q rfl rfl (RD.move rfl) rfl ?_
  refine TE_gq rfl rfl rfl rfl (RD.move rfl) rfl ?_
  refine TE_callG _ ((bs132, .cells #[.string ⟨#[97]⟩, bldVx [(ofR 0 1 []), (ofR 1 0 [])] st133] 56 (0, 0)) :: (bldMx 40 (recC) [(ofR 0 1 []), (ofR 1 0 [])] st133)) rfl rfl ⟨_, rfl, rfl⟩ Tryz.call23 rfl rfl rfl (fun w hw => (by have h := c_sibAlive bs132 ⟨#[97]⟩ (bldVx [(ofR 0 1 []), (ofR 1 0 [])] st133) (bldMx 40 (recC) [(ofR 0 1 []), (ofR 1 0 [])] st133) [(ofR 0 1 []), (ofR 1 0 [])] w ne97 (hRD136.mono (fun _ hw => hw.sp (fun a => by simp -failIfUnchanged <;> omega))) (by intro x hx; simp only [List.mem_cons, List.not_mem_nil, or_false] at hx; rcases hx with rfl | rfl <;> exact ofR_ok (by decide) (by decide) (vok _ rfl)) (by decide) (hw.sp (fun a => by simp -failIfUnchanged <;> omega)); rw [show alL [(ofR 0 1 []), (ofR 1 0 [])] = [(ofR 0 1 [])] from by kernel_rfl] at h; exact h)) (fun a => by simp -failIfUnchanged <;> omega) ?_
  rintro v149 H150 ⟨st145, hbo146, rfl, rfl⟩ hX147
  have hRD148 : Rdx 52 (recC) (bldMx 40 (recC) [(ofR 0 1 [])] st145) (bldVx [(ofR 0 1 [])] st145) [(ofR 0 1 [])] := hbo146.rdx (u := 40) recC_len
  refine TE_sp ((bs132, .cells #[.string ⟨#[97]⟩, bldVx [(ofR 0 1 []), (ofR 1 0 [])] st133] 56 (0, 0)) :: (0, g) :: ((bldMx 40 (recC) [(ofR 0 1 [])] st145) ++ ((bldMx 40 (recC) [(ofR 0 1 []), (ofR 1 0 [])] st139) ++ (bldMx 40 (recC) [(ofR 0 1 []), (ofR 1 0 [])] st133)))) (fun a => by simp -failIfUnchanged <;> omega) ?_
  refine TE_gq rfl rfl rfl rfl (RD.as (v := .int .i64 1) (RD.lenX Tryz.runUnderlying22 rfl hRD148) rfl) rfl ?_
  refine TE_gq rfl rfl rfl rfl (RD.as (v := .bool true) (RD.eql rfl rfl) rfl) rfl ?_
  refine TE_q rfl rfl (RD.pickT rfl rfl) rfl ?_
  refine TE_q rfl rfl (RD.move rfl) rfl ?_
  refine TE_gq rfl rfl rfl rfl (RD.move rfl) rfl ?_
  refine TE_callG _ [(bs132, .cells #[.string ⟨#[97]⟩, bldVx [(ofR 0 1 []), (ofR 1 0 [])] st133] 56 (0, 0))] rfl rfl ⟨_, rfl, rfl⟩ Tryz.call24 rfl rfl rfl (fun w hw => c_sibRef bs132 ⟨#[97]⟩ (bldVx [(ofR 0 1 []), (ofR 1 0 [])] st133) w ne97 (hw.sp (fun a => by simp -failIfUnchanged <;> omega))) (fun a => by simp -failIfUnchanged <;> omega) ?_
  rintro v151 H152 ⟨rfl, rfl⟩ -
  refine TE_gq rfl rfl rfl rfl (RD.as (v := .bool true) (RD.eql_string rfl rfl) (congrArg Value.bool (by decide))) rfl ?_
  refine TE_q rfl rfl (RD.pickT rfl rfl) rfl ?_
  refine TE_q rfl rfl (RD.assign rfl) rfl ?_
  refine TE_nil0 ?_
  refine pn_seq ?_
  refine pn_plainG [] [(0, g)] rfl (fun a => by simp -failIfUnchanged <;> omega) ?_
  refine TE_q rfl rfl (RD.assign rfl) rfl ?_
  refine TE_nil0 ?_
  refine pn_seq ?_
  refine pn_plain [] rfl ?_
  refine TE_allocC #[.string ⟨#[]⟩, .slice none 0 0] rfl Tryz.zeroValue56 rfl trivial rfl fun b33 hb33 => ?_
  refine TE_nil0 ?_
  refine pn_seq ?_
  refine pn_plain [] rfl ?_
  refine TE_q rfl rfl (RD.move rfl) rfl ?_
  refine TE_callG _ [] rfl rfl trivial Tryz.call22 rfl rfl rfl (fun w hw => c_of19 0 1 (.slice none 0 0) [] [] w (by omega) Rdx.nil (by decide) (vok _ rfl) (hw.sp (fun a => by simp -failIfUnchanged <;> omega))) (fun a => by simp -failIfUnchanged <;> omega) ?_
  rintro v153 H154 ⟨rfl, rfl⟩ -
  refine TE_callG _ [] rfl rfl trivial Tryz.call16 rfl rfl rfl (fun w hw => c_applyNN (ofR 0 1 []) w  (hw.sp (fun a => by simp -failIfUnchanged <;> omega))) (fun a => by simp -failIfUnchanged <;> omega) ?_
  rintro v155 H156 ⟨rfl, rfl⟩ -
  refine TE_q rfl rfl (RD.move rfl) rfl ?_
  refine TE_q rfl rfl (RD.extract rfl rfl) rfl ?_
  refine TE_q rfl rfl (RD.extract rfl rfl) rfl ?_
  refine TE_q rfl rfl (RD.assign rfl) rfl ?_
  refine TE_q rfl rfl (RD.assign rfl) rfl ?_
  refine TE_nil0 ?_
  refine pn_seq ?_
  refine pn_plain [] rfl ?_
  refine TE_callG _ [] rfl rfl trivial Tryz.call22 rfl rfl rfl (fun w hw => c_of19 0 1 (.slice none 0 0) [] [] w (by omega) Rdx.nil (by decide) (vok _ rfl) (hw.sp (fun a => by simp -failIfUnchanged <;> omega))) (fun a => by simp -failIfUnchanged <;> omega) ?_
  rintro v157 H158 ⟨rfl, rfl⟩ -
  refine TE_callG _ [(b33, .cells #[.string ⟨#[]⟩, .slice none 0 0] 56 (0, 0))] rfl rfl trivial Tryz.call16 rfl rfl rfl (fun w hw => c_applyNZ b33 (ofR 0 1 []) w  (hw.sp (fun a => by simp -failIfUnchanged <;> omega))) (fun a => by simp -failIfUnchanged <;> omega) ?_
  rintro v159 H160 ⟨rfl, rfl⟩ -
  refine TE_q rfl rfl (RD.move rfl) rfl ?_
  refine TE_q rfl rfl (RD.extract rfl rfl) rfl ?_
  refine TE_q rfl rfl (RD.extract rfl rfl) rfl ?_
  refine TE_q rfl rfl (RD.assign rfl) rfl ?_
  refine TE_q rfl rfl (RD.assign rfl) rfl ?_
  refine TE_nil0 ?_
  refine pn_seq ?_
  refine pn_plain [28, 30, 34] rfl ?_
  refine TE_q rfl rfl (RD.move rfl) rfl ?_
  refine TE_callG _ [(0, g)] rfl rfl ⟨_, rfl, rfl⟩ Tryz.call14 rfl rfl rfl (fun w hw => c_alive19 g w hg (hw.sp (fun a => by simp -failIfUnchanged <;> omega))) (fun a => by simp -failIfUnchanged <;> omega) ?_
  rintro v161 H162 ⟨rfl, rfl⟩ -
  refine TE_q rfl rfl (RD.pickT rfl rfl) rfl ?_
  refine TE_q rfl rfl (RD.move rfl) rfl ?_
  refine TE_gq rfl rfl rfl rfl (RD.move rfl) rfl ?_
  refine TE_q rfl rfl (RD.pickT rfl rfl) rfl ?_
  refine TE_q rfl rfl (RD.move rfl) rfl ?_
  refine TE_gq rfl rfl rfl rfl (RD.move rfl) rfl ?_
  refine TE_q rfl rfl (RD.pickT rfl rfl) rfl ?_
  refine TE_q rfl rfl (RD.move rfl) rfl ?_
  refine TE_gq rfl rfl rfl rfl (RD.move rfl) rfl ?_
  refine TE_q rfl rfl (RD.pickT rfl rfl) rfl ?_
  refine TE_q rfl rfl (RD.move rfl) rfl ?_
  refine TE_gq rfl rfl rfl rfl (RD.move rfl) rfl ?_
  refine TE_gq rfl rfl rfl rfl (RD.as (v := .bool true) (RD.eql rfl rfl) rfl) rfl ?_
  refine TE_q rfl rfl (RD.pickT rfl rfl) rfl ?_
  refine TE_q rfl rfl (RD.move rfl) rfl ?_
  refine TE_gq rfl rfl rfl rfl (RD.move rfl) rfl ?_
  refine TE_gq rfl rfl rfl rfl (RD.as (v := .bool true) (RD.eql rfl rfl) rfl) rfl ?_
  refine TE_q rfl rfl (RD.pickT rfl rfl) rfl ?_
  refine TE_q rfl rfl (RD.move rfl) rfl ?_
  refine TE_gq rfl rfl rfl rfl (RD.move rfl) rfl ?_
  refine TE_callG _ [] rfl rfl ⟨_, rfl, rfl⟩ Tryz.call24 rfl rfl rfl (fun w hw => c_refNN  w  (hw.sp (fun a => by simp -failIfUnchanged <;> omega))) (fun a => by simp -failIfUnchanged <;> omega) ?_
  rintro v163 H164 ⟨rfl, rfl⟩ -
  refine TE_gq rfl rfl rfl rfl (RD.as (v := .bool true) (RD.eql_string rfl rfl) (congrArg Value.bool (by decide))) rfl ?_
  refine TE_q rfl rfl (RD.pickT rfl rfl) rfl ?_
  refine TE_q rfl rfl (RD.move rfl) rfl ?_
  refine TE_gq rfl rfl rfl rfl (RD.move rfl) rfl ?_
  refine TE_callG _ [] rfl rfl ⟨_, rfl, rfl⟩ Tryz.call17 rfl rfl rfl (fun w hw => c_allNN  w  (hw.sp (fun a => by simp -failIfUnchanged <;> omega))) (fun a => by simp -failIfUnchanged <;> omega) ?_
  rintro v165 H166 ⟨rfl, rfl⟩ -
  refine TE_gq rfl rfl rfl rfl (RD.as (v := .int .i64 0) (RD.len_slice Tryz.runUnderlying22 rfl) rfl) rfl ?_
  refine TE_callG _ [(b33, .cells #[.string ⟨#[]⟩, .slice none 0 0] 56 (0, 0))] rfl rfl ⟨_, rfl, rfl⟩ Tryz.call23 rfl rfl rfl (fun w hw => c_aliveNZ b33 w  (hw.sp (fun a => by simp -failIfUnchanged <;> omega))) (fun a => by simp -failIfUnchanged <;> omega) ?_
  rintro v171 H172 ⟨st167, hbo168, rfl, rfl⟩ hX169
  have hRD170 : Rdx 52 (recC) (bldMx 40 (recC) ([] : List Rec) st167) (bldVx ([] : List Rec) st167) ([] : List Rec) := hbo168.rdx (u := 40) recC_len
  refine TE_sp ((b33, .cells #[.string ⟨#[]⟩, .slice none 0 0] 56 (0, 0)) :: (0, g) :: (bldMx 40 (recC) ([] : List Rec) st167)) (fun a => by simp -failIfUnchanged <;> omega) ?_
  refine TE_gq rfl rfl rfl rfl (RD.as (v := .int .i64 0) (RD.lenX Tryz.runUnderlying22 rfl hRD170) rfl) rfl ?_
  refine TE_gq rfl rfl rfl rfl (RD.as (v := .int .i64 0) (RD.addI rfl rfl (by decide) (by decide)) rfl) rfl ?_
  refine TE_gq rfl rfl rfl rfl (RD.move rfl) rfl ?_
  refine TE_callG _ [] rfl rfl ⟨_, rfl, rfl⟩ Tryz.call19 rfl rfl rfl (fun w hw => c_tipsNN  w  (hw.sp (fun a => by simp -failIfUnchanged <;> omega))) (fun a => by simp -failIfUnchanged <;> omega) ?_
  rintro v177 H178 ⟨st173, hbo174, rfl, rfl⟩ hX175
  have hRD176 : Rdx 32 (idC) (bldMx 38 (idC) ([] : List (Nat → Int)) st173) (bldVx ([] : List (Nat → Int)) st173) ([] : List (Nat → Int)) := hbo174.rdx (u := 38) idC_len
  refine TE_sp ((b33, .cells #[.string ⟨#[]⟩, .slice none 0 0] 56 (0, 0)) :: (0, g) :: ((bldMx 38 (idC) ([] : List (Nat → Int)) st173) ++ (bldMx 40 (recC) ([] : List Rec) st167))) (fun a => by simp -failIfUnchanged <;> omega) ?_
  refine TE_gq rfl rfl rfl rfl (RD.as (v := .int .i64 0) (RD.lenX Tryz.runUnderlying48 rfl hRD176) rfl) rfl ?_
  refine TE_gq rfl rfl rfl rfl (RD.as (v := .int .i64 0) (RD.addI rfl rfl (by decide) (by decide)) rfl) rfl ?_
  refine TE_gq rfl rfl rfl rfl (RD.as (v := .bool true) (RD.eql rfl rfl) rfl) rfl ?_
  refine TE_q rfl rfl (RD.pickT rfl rfl) rfl ?_
  refine TE_q rfl rfl (RD.move rfl) rfl ?_
  refine TE_callG _ [(b33, .cells #[.string ⟨#[]⟩, .slice none 0 0] 56 (0, 0))] rfl rfl ⟨_, rfl, rfl⟩ Tryz.call25 rfl rfl rfl (fun w hw => c_copyNZ b33 w  (hw.sp (fun a => by simp -failIfUnchanged <;> omega))) (fun a => by simp -failIfUnchanged <;> omega) ?_
  rintro v179 H180 ⟨rfl, rfl⟩ -
  refine TE_gq rfl rfl rfl rfl (RD.as (v := .bool true) (RD.ptr_eql_nil Tryz.runUnderlying24 rfl rfl) rfl) rfl ?_
  refine TE_q rfl rfl (RD.pickT rfl rfl) rfl ?_
  refine TE_q rfl rfl (RD.assign rfl) rfl ?_
  refine TE_nil0 ?_
  refine pn_ret ?_
  exact pn_doneS [] rfl rfl ⟨rfl, rfl⟩ (fun _ => Nat.zero_le _) (fun _ he => nomatch he)

end Go.Proofs.YtaakjgmehbbgfaaGreatDoor
