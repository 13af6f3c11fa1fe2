import Derived.Test.YtloljpefdecmhaaGreatDoorGan
namespace Go.Proofs.YtloljpefdecmhaaGreatDoor
open Go Go.Mv
set_option maxRecDepth 8000
theorem c_equalE (xsv : Value) (xs : List Ent) (ysv : Value) (ys : List Ent) (HX : Mem) (w : World) (hbxs : Rdx 34 (entC) HX xsv xs) (hlxs : xs.length ≤ 1000000) (hbys : Rdx 34 (entC) HX ysv ys) (hlys : ys.length ≤ 1000000) (hH : Hp HX w) : Calls Tryz.prog 79 #[xsv, ysv] w (Ret w [] fun v H1 => v = .bool (sameGL same_ent xs ys) ∧ H1 = []) := by
  refine fn_enter (args := [_, _]) Tryz.func79 rfl Tryz.ntmps79 rfl hH ?_
  refine pn_seq ?_
  refine pn_plain [] rfl ?_
  refine TE_q rfl rfl (RD.assign rfl) rfl ?_
  refine TE_nil0 ?_
  refine pn_seq ?_
  refine pn_seq ?_
  refine pn_plain [1, 3] rfl ?_
  refine TE_q rfl rfl (RD.move rfl) rfl ?_
  refine TE_q rfl rfl (RD.lenX Tryz.runUnderlying43 rfl hbxs) rfl ?_
  refine TE_q rfl rfl (RD.move rfl) rfl ?_
  refine TE_q rfl rfl (RD.lenX Tryz.runUnderlying43 rfl hbys) rfl ?_
  refine TE_q rfl rfl (RD.neq rfl rfl) rfl ?_
  refine TE_nil0 ?_
  refine pn_condN rfl (fun hc1 => ?_) (fun hc1 => ?_)
  · refine pn_seq ?_
    refine pn_plainG [] [] rfl (fun a => by simp -failIfUnchanged <;> omega) ?_
    refine TE_q rfl rfl (RD.assign rfl) rfl ?_
    refine TE_nil0 ?_
    refine pn_ret ?_
    exact pn_doneS [] rfl rfl ⟨(congrArg Value.bool (sameG_len (by omega)).symm), rfl⟩ (fun _ => Nat.zero_le _) (fun _ he => nomatch he)
  · refine pn_skip ?_
    refine pn_seq ?_
    refine pn_seq ?_
    refine pn_plain [1] rfl ?_
    refine TE_q rfl rfl (RD.move rfl) rfl ?_
    refine TE_q rfl rfl (RD.lenX Tryz.runUnderlying43 rfl hbxs) rfl ?_
    refine TE_q rfl rfl (RD.move rfl) rfl ?_
    refine TE_nil0 ?_
    refine pn_block ?_
    refine pn_loopS (σ := Nat) (fun q => [(0, xsv), (1, ysv), (12, .int .i64 (xs.length : Int)), (13, .int .i64 (q : Int))]) (fun q => HX) (fun q => (q ≤ xs.length) ∧ (∀ j, j < q → same_ent (gt xs j) (gt ys j) = true)) (fun q => xs.length - q) 0 ⟨(by omega), (fun j hj => absurd hj (Nat.not_lt_zero _))⟩ ⟨rfl, rfl, rfl, rfl, trivial⟩ (fun a => by simp -failIfUnchanged <;> omega) ?_
    rintro i ⟨hi, hall⟩
    refine pn_seq ?_
    refine pn_plain [] rfl ?_
    refine TE_q rfl rfl (RD.lss rfl rfl) rfl ?_
    refine TE_nil0 ?_
    refine pn_seq ?_
    refine pn_condD rfl (fun hc2 => ?_) (fun hc2 => ?_)
    · refine pn_skip ?_
      refine pn_seq ?_
      refine pn_block ?_
      refine pn_seq ?_
      refine pn_plain [] rfl ?_
      refine TE_q rfl rfl (RD.move rfl) rfl ?_
      refine TE_q rfl rfl (RD.assign rfl) rfl ?_
      refine TE_nil0 ?_
      refine pn_seq ?_
      refine pn_drawG [3, 7] [] HX rfl rfl (by kernel_rfl) (fun a => by simp -failIfUnchanged <;> omega) ?_
      refine TE_q rfl rfl (RD.move rfl) rfl ?_
      refine TE_q rfl rfl (RD.move rfl) rfl ?_
      refine TE_q rfl rfl (RD.idxR (i := i) (o := (i * 34 + 0)) Tryz.runUnderlying43 Tryz.sizeOf97 rfl hbxs rfl rfl (by omega) (by rfl)) rfl ?_
      refine TE_q rfl rfl (RD.ldRA (i := i) (j := 0) (vs := (entC (gt xs i))) Tryz.isAgg97 Tryz.sizeOf97 rfl hbxs (gt_some (by omega)) (by rfl) rfl (fun _ _ hu => by rw [Nat.zero_add]; exact hu) (entC_agg _) (fun _ hw => hw.sp (fun a => by simp -failIfUnchanged <;> omega))) rfl ?_
      refine TE_q rfl rfl (RD.move rfl) rfl ?_
      refine TE_q rfl rfl (RD.move rfl) rfl ?_
      refine TE_q rfl rfl (RD.idxR (i := i) (o := (i * 34 + 0)) Tryz.runUnderlying43 Tryz.sizeOf97 rfl hbys rfl rfl (by omega) (by rfl)) rfl ?_
      refine TE_q rfl rfl (RD.ldRA (i := i) (j := 0) (vs := (entC (gt ys i))) Tryz.isAgg97 Tryz.sizeOf97 rfl hbys (gt_some (by omega)) (by rfl) rfl (fun _ _ hu => by rw [Nat.zero_add]; exact hu) (entC_agg _) (fun _ hw => hw.sp (fun a => by simp -failIfUnchanged <;> omega))) rfl ?_
      refine TE_q rfl rfl (RD.neq_agg Tryz.eqGuardType97 (eq_ent (gt xs i) (gt ys i)) rfl rfl) rfl ?_
      refine TE_nil ?_
      refine pn_cond rfl (fun hc3 => ?_) (fun hc3 => ?_)
      · simp only [Bool.not_eq_true'] at hc3
        refine pn_seq ?_
        refine pn_plainG [] [] rfl (fun a => by simp -failIfUnchanged <;> omega) ?_
        refine TE_q rfl rfl (RD.assign rfl) rfl ?_
        refine TE_nil0 ?_
        refine pn_ret ?_
        exact pn_doneS [] rfl rfl ⟨(congrArg Value.bool (sameG_F (f := same_ent) (i := i) (by omega) (by omega) (by assumption)).symm), rfl⟩ (fun _ => Nat.zero_le _) (fun _ he => nomatch he)
      · simp only [Bool.not_eq_false'] at hc3
        refine pn_skip ?_
        refine pn_plainG [] HX rfl (fun a => by simp -failIfUnchanged <;> omega) ?_
        refine TE_q rfl rfl (RD.addI rfl rfl (by omega) (by omega)) rfl ?_
        refine TE_q rfl rfl (RD.move rfl) rfl ?_
        refine TE_nil0 ?_
        exact pn_againS (i + 1) ⟨(by omega), (fun j hj => by rcases Nat.lt_or_ge j i with h | h; exact hall j h; obtain rfl : j = i := (by omega); assumption)⟩ (by omega) ⟨rfl, rfl, rfl, rfl, trivial⟩ (fun a => by simp -failIfUnchanged <;> omega)
    · refine pn_exit ?_
      refine pn_seq ?_
      refine pn_plainG [] [] rfl (fun a => by simp -failIfUnchanged <;> omega) ?_
      refine TE_q rfl rfl (RD.assign rfl) rfl ?_
      refine TE_nil0 ?_
      refine pn_ret ?_
      exact pn_doneS [] rfl rfl ⟨(congrArg Value.bool (sameG_T (f := same_ent) (by omega) fun j hj => hall j (by omega)).symm), rfl⟩ (fun _ => Nat.zero_le _) (fun _ he => nomatch he)

theorem c_equalI (xsv : Value) (xs : List ((Nat → Int))) (ysv : Value) (ys : List ((Nat → Int))) (HX : Mem) (w : World) (hbxs : Rdx 32 (idC) HX xsv xs) (hlxs : xs.length ≤ 1000000) (hbys : Rdx 32 (idC) HX ysv ys) (hlys : ys.length ≤ 1000000) (hH : Hp HX w) : Calls Tryz.prog 80 #[xsv, ysv] w (Ret w [] fun v H1 => v = .bool (sameIL xs ys) ∧ H1 = []) := by
  refine fn_enter (args := [_, _]) Tryz.func80 rfl Tryz.ntmps80 rfl hH ?_
  refine pn_seq ?_
  refine pn_plain [] rfl ?_
  refine TE_q rfl rfl (RD.assign rfl) rfl ?_
  refine TE_nil0 ?_
  refine pn_seq ?_
  refine pn_seq ?_
  refine pn_plain [1, 3] rfl ?_
  refine TE_q rfl rfl (RD.move rfl) rfl ?_
  refine TE_q rfl rfl (RD.lenX Tryz.runUnderlying44 rfl hbxs) rfl ?_
  refine TE_q rfl rfl (RD.move rfl) rfl ?_
  refine TE_q rfl rfl (RD.lenX Tryz.runUnderlying44 rfl hbys) rfl ?_
  refine TE_q rfl rfl (RD.neq rfl rfl) rfl ?_
  refine TE_nil0 ?_
  refine pn_condN rfl (fun hc1 => ?_) (fun hc1 => ?_)
  · refine pn_seq ?_
    refine pn_plainG [] [] rfl (fun a => by simp -failIfUnchanged <;> omega) ?_
    refine TE_q rfl rfl (RD.assign rfl) rfl ?_
    refine TE_nil0 ?_
    refine pn_ret ?_
    exact pn_doneS [] rfl rfl ⟨(congrArg Value.bool (((sameG_len (by omega)).symm).trans (sameIG_eq _ _).symm)), rfl⟩ (fun _ => Nat.zero_le _) (fun _ he => nomatch he)
  · refine pn_skip ?_
    refine pn_seq ?_
    refine pn_seq ?_
    refine pn_plain [1] rfl ?_
    refine TE_q rfl rfl (RD.move rfl) rfl ?_
    refine TE_q rfl rfl (RD.lenX Tryz.runUnderlying44 rfl hbxs) rfl ?_
    refine TE_q rfl rfl (RD.move rfl) rfl ?_
    refine TE_nil0 ?_
    refine pn_block ?_
    refine pn_loopS (σ := Nat) (fun q => [(0, xsv), (1, ysv), (12, .int .i64 (xs.length : Int)), (13, .int .i64 (q : Int))]) (fun q => HX) (fun q => (q ≤ xs.length) ∧ (∀ j, j < q → (sameN 32) (gt xs j) (gt ys j) = true)) (fun q => xs.length - q) 0 ⟨(by omega), (fun j hj => absurd hj (Nat.not_lt_zero _))⟩ ⟨rfl, rfl, rfl, rfl, trivial⟩ (fun a => by simp -failIfUnchanged <;> omega) ?_
    rintro i ⟨hi, hall⟩
    refine pn_seq ?_
    refine pn_plain [] rfl ?_
    refine TE_q rfl rfl (RD.lss rfl rfl) rfl ?_
    refine TE_nil0 ?_
    refine pn_seq ?_
    refine pn_condD rfl (fun hc2 => ?_) (fun hc2 => ?_)
    · refine pn_skip ?_
      refine pn_seq ?_
      refine pn_block ?_
      refine pn_seq ?_
      refine pn_plain [] rfl ?_
      refine TE_q rfl rfl (RD.move rfl) rfl ?_
      refine TE_q rfl rfl (RD.assign rfl) rfl ?_
      refine TE_nil0 ?_
      refine pn_seq ?_
      refine pn_drawG [3, 7] [] HX rfl rfl (by kernel_rfl) (fun a => by simp -failIfUnchanged <;> omega) ?_
      refine TE_q rfl rfl (RD.move rfl) rfl ?_
      refine TE_q rfl rfl (RD.move rfl) rfl ?_
      refine TE_q rfl rfl (RD.idxR (i := i) (o := (i * 32 + 0)) Tryz.runUnderlying44 Tryz.sizeOf36 rfl hbxs rfl rfl (by omega) (by rfl)) rfl ?_
      refine TE_q rfl rfl (RD.ldRA (i := i) (j := 0) (vs := (idC (gt xs i))) Tryz.isAgg36 Tryz.sizeOf36 rfl hbxs (gt_some (by omega)) (by rfl) rfl (fun _ _ hu => by rw [Nat.zero_add]; exact hu) (idC_agg _) (fun _ hw => hw.sp (fun a => by simp -failIfUnchanged <;> omega))) rfl ?_
      refine TE_q rfl rfl (RD.move rfl) rfl ?_
      refine TE_q rfl rfl (RD.move rfl) rfl ?_
      refine TE_q rfl rfl (RD.idxR (i := i) (o := (i * 32 + 0)) Tryz.runUnderlying44 Tryz.sizeOf36 rfl hbys rfl rfl (by omega) (by rfl)) rfl ?_
      refine TE_q rfl rfl (RD.ldRA (i := i) (j := 0) (vs := (idC (gt ys i))) Tryz.isAgg36 Tryz.sizeOf36 rfl hbys (gt_some (by omega)) (by rfl) rfl (fun _ _ hu => by rw [Nat.zero_add]; exact hu) (idC_agg _) (fun _ hw => hw.sp (fun a => by simp -failIfUnchanged <;> omega))) rfl ?_
      refine TE_q rfl rfl (RD.neq_agg Tryz.eqGuardType36 (eq_id (gt xs i) (gt ys i)) rfl rfl) rfl ?_
      refine TE_nil ?_
      refine pn_cond rfl (fun hc3 => ?_) (fun hc3 => ?_)
      · simp only [Bool.not_eq_true'] at hc3
        refine pn_seq ?_
        refine pn_plainG [] [] rfl (fun a => by simp -failIfUnchanged <;> omega) ?_
        refine TE_q rfl rfl (RD.assign rfl) rfl ?_
        refine TE_nil0 ?_
        refine pn_ret ?_
        exact pn_doneS [] rfl rfl ⟨(congrArg Value.bool (((sameG_F (f := (sameN 32)) (i := i) (by omega) (by omega) (by assumption)).symm).trans (sameIG_eq _ _).symm)), rfl⟩ (fun _ => Nat.zero_le _) (fun _ he => nomatch he)
      · simp only [Bool.not_eq_false'] at hc3
        refine pn_skip ?_
        refine pn_plainG [] HX rfl (fun a => by simp -failIfUnchanged <;> omega) ?_
        refine TE_q rfl rfl (RD.addI rfl rfl (by omega) (by omega)) rfl ?_
        refine TE_q rfl rfl (RD.move rfl) rfl ?_
        refine TE_nil0 ?_
        exact pn_againS (i + 1) ⟨(by omega), (fun j hj => by rcases Nat.lt_or_ge j i with h | h; exact hall j h; obtain rfl : j = i := (by omega); assumption)⟩ (by omega) ⟨rfl, rfl, rfl, rfl, trivial⟩ (fun a => by simp -failIfUnchanged <;> omega)
    · refine pn_exit ?_
      refine pn_seq ?_
      refine pn_plainG [] [] rfl (fun a => by simp -failIfUnchanged <;> omega) ?_
      refine TE_q rfl rfl (RD.assign rfl) rfl ?_
      refine TE_nil0 ?_
      refine pn_ret ?_
      exact pn_doneS [] rfl rfl ⟨(congrArg Value.bool (((sameG_T (f := (sameN 32)) (by omega) fun j hj => hall j (by omega)).symm).trans (sameIG_eq _ _).symm)), rfl⟩ (fun _ => Nat.zero_le _) (fun _ he => nomatch he)

theorem c_r7Lists (xsv : Value) (xs : List Lnk) (ysv : Value) (ys : List Lnk) (HX : Mem) (w : World) (hbxs : Rdx 33 (lnkC) HX xsv xs) (hlxs : xs.length ≤ 1000000) (hbys : Rdx 33 (lnkC) HX ysv ys) (hlys : ys.length ≤ 1000000) (hH : Hp HX w) : Calls Tryz.prog 39 #[xsv, ysv] w (Ret w [] fun v H1 => v = .bool (sameGL same_lnk xs ys) ∧ H1 = []) := by
  refine fn_enter (args := [_, _]) Tryz.func39 rfl Tryz.ntmps39 rfl hH ?_
  refine pn_seq ?_
  refine pn_plain [] rfl ?_
  refine TE_q rfl rfl (RD.assign rfl) rfl ?_
  refine TE_nil0 ?_
  refine pn_seq ?_
  refine pn_seq ?_
  refine pn_plain [1, 3] rfl ?_
  refine TE_q rfl rfl (RD.move rfl) rfl ?_
  refine TE_q rfl rfl (RD.lenX Tryz.runUnderlying70 rfl hbxs) rfl ?_
  refine TE_q rfl rfl (RD.move rfl) rfl ?_
  refine TE_q rfl rfl (RD.lenX Tryz.runUnderlying70 rfl hbys) rfl ?_
  refine TE_q rfl rfl (RD.neq rfl rfl) rfl ?_
  refine TE_nil0 ?_
  refine pn_condN rfl (fun hc1 => ?_) (fun hc1 => ?_)
  · refine pn_seq ?_
    refine pn_plainG [] [] rfl (fun a => by simp -failIfUnchanged <;> omega) ?_
    refine TE_q rfl rfl (RD.assign rfl) rfl ?_
    refine TE_nil0 ?_
    refine pn_ret ?_
    exact pn_doneS [] rfl rfl ⟨(congrArg Value.bool (sameG_len (by omega)).symm), rfl⟩ (fun _ => Nat.zero_le _) (fun _ he => nomatch he)
  · refine pn_skip ?_
    refine pn_seq ?_
    refine pn_seq ?_
    refine pn_plain [] rfl ?_
    refine TE_q rfl rfl (RD.assign rfl) rfl ?_
    refine TE_nil0 ?_
    refine pn_block ?_
    refine pn_loopS (σ := Nat) (fun q => [(0, xsv), (1, ysv), (5, .int .i64 (q : Int))]) (fun q => HX) (fun q => (q ≤ xs.length) ∧ (∀ j, j < q → same_lnk (gt xs j) (gt ys j) = true)) (fun q => xs.length - q) 0 ⟨(by omega), (fun j hj => absurd hj (Nat.not_lt_zero _))⟩ ⟨rfl, rfl, rfl, trivial⟩ (fun a => by simp -failIfUnchanged <;> omega) ?_
    rintro i ⟨hi, hall⟩
    refine pn_seq ?_
    refine pn_seq ?_
    refine pn_plain [2] rfl ?_
    refine TE_q rfl rfl (RD.move rfl) rfl ?_
    refine TE_q rfl rfl (RD.move rfl) rfl ?_
    refine TE_q rfl rfl (RD.lenX Tryz.runUnderlying70 rfl hbxs) rfl ?_
    refine TE_q rfl rfl (RD.lss rfl rfl) rfl ?_
    refine TE_nil0 ?_
    refine pn_condD rfl (fun hc2 => ?_) (fun hc2 => ?_)
    · refine pn_skip ?_
      refine pn_seq ?_
      refine pn_block ?_
      refine pn_seq ?_
      refine pn_drawG [3, 7] [] HX rfl rfl (by kernel_rfl) (fun a => by simp -failIfUnchanged <;> omega) ?_
      refine TE_q rfl rfl (RD.move rfl) rfl ?_
      refine TE_q rfl rfl (RD.move rfl) rfl ?_
      refine TE_q rfl rfl (RD.idxR (i := i) (o := (i * 33 + 0)) Tryz.runUnderlying70 Tryz.sizeOf46 rfl hbxs rfl rfl (by omega) (by rfl)) rfl ?_
      refine TE_q rfl rfl (RD.ldRA (i := i) (j := 0) (vs := (lnkC (gt xs i))) Tryz.isAgg46 Tryz.sizeOf46 rfl hbxs (gt_some (by omega)) (by rfl) rfl (fun _ _ hu => by rw [Nat.zero_add]; exact hu) (lnkC_agg _) (fun _ hw => hw.sp (fun a => by simp -failIfUnchanged <;> omega))) rfl ?_
      refine TE_q rfl rfl (RD.move rfl) rfl ?_
      refine TE_q rfl rfl (RD.move rfl) rfl ?_
      refine TE_q rfl rfl (RD.idxR (i := i) (o := (i * 33 + 0)) Tryz.runUnderlying70 Tryz.sizeOf46 rfl hbys rfl rfl (by omega) (by rfl)) rfl ?_
      refine TE_q rfl rfl (RD.ldRA (i := i) (j := 0) (vs := (lnkC (gt ys i))) Tryz.isAgg46 Tryz.sizeOf46 rfl hbys (gt_some (by omega)) (by rfl) rfl (fun _ _ hu => by rw [Nat.zero_add]; exact hu) (lnkC_agg _) (fun _ hw => hw.sp (fun a => by simp -failIfUnchanged <;> omega))) rfl ?_
      refine TE_q rfl rfl (RD.neq_agg Tryz.eqGuardType46 (eq_lnk (gt xs i) (gt ys i)) rfl rfl) rfl ?_
      refine TE_nil ?_
      refine pn_cond rfl (fun hc3 => ?_) (fun hc3 => ?_)
      · simp only [Bool.not_eq_true'] at hc3
        refine pn_seq ?_
        refine pn_plainG [] [] rfl (fun a => by simp -failIfUnchanged <;> omega) ?_
        refine TE_q rfl rfl (RD.assign rfl) rfl ?_
        refine TE_nil0 ?_
        refine pn_ret ?_
        exact pn_doneS [] rfl rfl ⟨(congrArg Value.bool (sameG_F (f := same_lnk) (i := i) (by omega) (by omega) (by assumption)).symm), rfl⟩ (fun _ => Nat.zero_le _) (fun _ he => nomatch he)
      · simp only [Bool.not_eq_false'] at hc3
        refine pn_skip ?_
        refine pn_plainG [] HX rfl (fun a => by simp -failIfUnchanged <;> omega) ?_
        refine TE_q rfl rfl (RD.move rfl) rfl ?_
        refine TE_q rfl rfl (RD.addI rfl rfl (by omega) (by omega)) rfl ?_
        refine TE_q rfl rfl (RD.assign rfl) rfl ?_
        refine TE_nil0 ?_
        exact pn_againS (i + 1) ⟨(by omega), (fun j hj => by rcases Nat.lt_or_ge j i with h | h; exact hall j h; obtain rfl : j = i := (by omega); assumption)⟩ (by omega) ⟨rfl, rfl, rfl, trivial⟩ (fun a => by simp -failIfUnchanged <;> omega)
    · refine pn_exit ?_
      refine pn_seq ?_
      refine pn_plainG [] [] rfl (fun a => by simp -failIfUnchanged <;> omega) ?_
      refine TE_q rfl rfl (RD.assign rfl) rfl ?_
      refine TE_nil0 ?_
      refine pn_ret ?_
      exact pn_doneS [] rfl rfl ⟨(congrArg Value.bool (sameG_T (f := same_lnk) (by omega) fun j hj => hall j (by omega)).symm), rfl⟩ (fun _ => Nat.zero_le _) (fun _ he => nomatch he)

theorem c_bytesEqual (xsv : Value) (xs : List UInt8) (ysv : Value) (ys : List UInt8) (HX : Mem) (w : World) (hbxs : Rdb HX xsv xs) (hbys : Rdb HX ysv ys) (hH : Hp HX w) : Calls Tryz.prog 78 #[xsv, ysv] w (Ret w [] fun v H1 => v = .bool (decide (xs = ys)) ∧ H1 = []) := by
  refine fn_enter (args := [_, _]) Tryz.func78 rfl Tryz.ntmps78 rfl hH ?_
  refine pn_seq ?_
  refine pn_plain [] rfl ?_
  refine TE_q rfl rfl (RD.assign rfl) rfl ?_
  refine TE_nil0 ?_
  refine pn_seq ?_
  refine pn_plain [] rfl ?_
  refine TE_q rfl rfl (RD.move rfl) rfl ?_
  refine TE_l rfl rfl trivial rfl (RD.str_of_bytes Tryz.underlying32 Tryz.underlying9 Tryz.underlying5 rfl (BytesIn.mono (hbxs).bytes (fun _ hw => hw.sp (fun a => by simp -failIfUnchanged <;> omega)))) rfl ?_
  refine TE_q rfl rfl (RD.move rfl) rfl ?_
  refine TE_l rfl rfl trivial rfl (RD.str_of_bytes Tryz.underlying32 Tryz.underlying9 Tryz.underlying5 rfl (BytesIn.mono (hbys).bytes (fun _ hw => hw.sp (fun a => by simp -failIfUnchanged <;> omega)))) rfl ?_
  refine TE_q rfl rfl (RD.eql_string rfl rfl) rfl ?_
  refine TE_q rfl rfl (RD.assign rfl) rfl ?_
  refine TE_nil0 ?_
  refine pn_ret ?_
  exact pn_doneS [] rfl rfl ⟨(congrArg Value.bool (decide_eq_decide.2 ba_eq)), rfl⟩ (fun _ => Nat.zero_le _) (fun _ he => nomatch he)

theorem c_great (x : Ob) (xd : Value) (xe : Value) (xp : Value) (HX : Mem) (w : World) (hbxd : Rdb HX xd x.data) (hbxe : Rdx 34 (entC) HX xe x.ents) (hbxp : Rdx 32 (idC) HX xp x.pars) (hox : ObW x) (hH : Hp HX w) : Calls Tryz.prog 24 #[objV x xd xe xp] w (Ret w [] fun v H1 => v = .int .i64 (greatI x) ∧ H1 = []) := by
  have hw1 := hox.d; have hw2 := hox.e; have hw3 := hox.p
  refine fn_enter (args := [_]) Tryz.func24 rfl Tryz.ntmps24 rfl hH ?_
  refine pn_seq ?_
  refine pn_plain [] rfl ?_
  refine TE_boxC (objV x xd xe xp).cells rfl rfl rfl trivial rfl fun b1 hb1 => ?_
  refine TE_q rfl rfl (RD.assign rfl) rfl ?_
  refine TE_nil0 ?_
  refine pn_seq ?_
  refine pn_seq ?_
  refine pn_plain [2, 7, 13, 19] rfl ?_
  refine TE_q rfl rfl (RD.fieldAddr (o := 1) Tryz.runUnderlying48 rfl rfl Tryz.sizeOf32 rfl) rfl ?_
  refine TE_l rfl rfl trivial rfl (RD.load (i := 0) (v := xd) Tryz.isAgg32 rfl rfl rfl) rfl ?_
  refine TE_q rfl rfl (RD.lenR Tryz.runUnderlying32 rfl hbxd) rfl ?_
  refine TE_q rfl rfl (RD.gtr rfl rfl) rfl ?_
  refine TE_q rfl rfl (RD.move rfl) rfl ?_
  refine TE_join (σ := Unit) (fun _ => [(1, .pointer (some ⟨b1, 0, none⟩)), (25, .bool ((decide (1100 < (x.data.length : Int))) || ((decide (40 < (x.ents.length : Int))) || ((decide (10 < (x.pars.length : Int))) || (decide (300 < (x.m.size : Int)))))))]) (fun _ => ((b1, .cells (objV x xd xe xp).cells 48 (0, 0)) :: HX)) (fun _ => True) ?_ ?_
  · refine TE_dec (fun hf1 => ?_) (fun hf1 => ?_)
    · refine TE_s rfl rfl rfl rfl rfl ?_
      refine TE_s rfl rfl rfl rfl rfl ?_
      refine TE_s rfl rfl rfl rfl rfl ?_
      refine TE_s rfl rfl rfl rfl rfl ?_
      refine TE_q rfl rfl (RD.pickT rfl rfl) rfl ?_
      refine TE_q rfl rfl (RD.move rfl) rfl ?_
      refine TE_s rfl rfl rfl rfl rfl ?_
      refine TE_s rfl rfl rfl rfl rfl ?_
      refine TE_s rfl rfl rfl rfl rfl ?_
      refine TE_s rfl rfl rfl rfl rfl ?_
      refine TE_q rfl rfl (RD.pickT rfl rfl) rfl ?_
      refine TE_q rfl rfl (RD.move rfl) rfl ?_
      refine TE_s rfl rfl rfl rfl rfl ?_
      refine TE_s rfl rfl rfl rfl rfl ?_
      refine TE_s rfl rfl rfl rfl rfl ?_
      refine TE_s rfl rfl rfl rfl rfl ?_
      refine TE_q rfl rfl (RD.pickT rfl rfl) rfl ?_
      refine TE_nil0 ?_
      exact pn_give () trivial ⟨rfl, congrArg (fun b => some (Value.bool b)) (by first | (simp [hf1]; done) | (simp only [decide_eq_true hf1]; rfl) | (simp only [decide_eq_true hf1]; simp; done)), trivial⟩ (fun _ hw => hw.sp (fun a => by simp -failIfUnchanged <;> omega))
    · refine TE_gq rfl rfl rfl rfl (RD.fieldAddr (o := 2) Tryz.runUnderlying48 rfl rfl Tryz.sizeOf43 rfl) rfl ?_
      refine TE_l rfl rfl ⟨_, rfl, rfl⟩ rfl (RD.load (i := 0) (v := xe) Tryz.isAgg43 rfl rfl rfl) rfl ?_
      refine TE_gq rfl rfl rfl rfl (RD.lenX Tryz.runUnderlying43 rfl hbxe) rfl ?_
      refine TE_gq rfl rfl rfl rfl (RD.gtr rfl rfl) rfl ?_
      refine TE_q rfl rfl (RD.pickF rfl rfl) rfl ?_
      refine TE_q rfl rfl (RD.move rfl) rfl ?_
      refine TE_dec (fun hf2 => ?_) (fun hf2 => ?_)
      · refine TE_s rfl rfl rfl rfl rfl ?_
        refine TE_s rfl rfl rfl rfl rfl ?_
        refine TE_s rfl rfl rfl rfl rfl ?_
        refine TE_s rfl rfl rfl rfl rfl ?_
        refine TE_q rfl rfl (RD.pickT rfl rfl) rfl ?_
        refine TE_q rfl rfl (RD.move rfl) rfl ?_
        refine TE_s rfl rfl rfl rfl rfl ?_
        refine TE_s rfl rfl rfl rfl rfl ?_
        refine TE_s rfl rfl rfl rfl rfl ?_
        refine TE_s rfl rfl rfl rfl rfl ?_
        refine TE_q rfl rfl (RD.pickT rfl rfl) rfl ?_
        refine TE_nil0 ?_
        exact pn_give () trivial ⟨rfl, congrArg (fun b => some (Value.bool b)) (by first | (simp [hf1, hf2]; done) | (simp only [decide_eq_false hf1, decide_eq_true hf2]; rfl) | (simp only [decide_eq_false hf1, decide_eq_true hf2]; simp; done)), trivial⟩ (fun _ hw => hw.sp (fun a => by simp -failIfUnchanged <;> omega))
      · refine TE_gq rfl rfl rfl rfl (RD.fieldAddr (o := 35) Tryz.runUnderlying48 rfl rfl Tryz.sizeOf44 rfl) rfl ?_
        refine TE_l rfl rfl ⟨_, rfl, rfl⟩ rfl (RD.load (i := 0) (v := xp) Tryz.isAgg44 rfl rfl rfl) rfl ?_
        refine TE_gq rfl rfl rfl rfl (RD.lenX Tryz.runUnderlying44 rfl hbxp) rfl ?_
        refine TE_gq rfl rfl rfl rfl (RD.gtr rfl rfl) rfl ?_
        refine TE_q rfl rfl (RD.pickF rfl rfl) rfl ?_
        refine TE_q rfl rfl (RD.move rfl) rfl ?_
        refine TE_dec (fun hf3 => ?_) (fun hf3 => ?_)
        · refine TE_s rfl rfl rfl rfl rfl ?_
          refine TE_s rfl rfl rfl rfl rfl ?_
          refine TE_s rfl rfl rfl rfl rfl ?_
          refine TE_s rfl rfl rfl rfl rfl ?_
          refine TE_q rfl rfl (RD.pickT rfl rfl) rfl ?_
          refine TE_nil0 ?_
          exact pn_give () trivial ⟨rfl, congrArg (fun b => some (Value.bool b)) (by first | (simp [hf1, hf2, hf3]; done) | (simp only [decide_eq_false hf1, decide_eq_false hf2, decide_eq_true hf3]; rfl) | (simp only [decide_eq_false hf1, decide_eq_false hf2, decide_eq_true hf3]; simp; done)), trivial⟩ (fun _ hw => hw.sp (fun a => by simp -failIfUnchanged <;> omega))
        · refine TE_gq rfl rfl rfl rfl (RD.fieldAddr (o := 69) Tryz.runUnderlying48 rfl rfl Tryz.sizeOf9 rfl) rfl ?_
          refine TE_l rfl rfl ⟨_, rfl, rfl⟩ rfl (RD.load (i := 0) (v := .string x.m) Tryz.isAgg9 rfl rfl rfl) rfl ?_
          refine TE_gq rfl rfl rfl rfl (RD.len_string Tryz.runUnderlying9 rfl) rfl ?_
          refine TE_gq rfl rfl rfl rfl (RD.gtr rfl rfl) rfl ?_
          refine TE_q rfl rfl (RD.pickF rfl rfl) rfl ?_
          refine TE_nil0 ?_
          exact pn_give () trivial ⟨rfl, congrArg (fun b => some (Value.bool b)) (by first | (simp [hf1, hf2, hf3]; done) | (simp only [decide_eq_false hf1, decide_eq_false hf2, decide_eq_false hf3]; rfl) | (simp only [decide_eq_false hf1, decide_eq_false hf2, decide_eq_false hf3]; simp; done)), trivial⟩ (fun _ hw => hw.sp (fun a => by simp -failIfUnchanged <;> omega))
  rintro _ -
  refine pn_cond rfl (fun hc4 => ?_) (fun hc4 => ?_)
  · simp only [Bool.or_eq_true, decide_eq_true_eq] at hc4
    refine pn_seq ?_
    refine pn_plainG [] [] rfl (fun a => by simp -failIfUnchanged <;> omega) ?_
    refine TE_q rfl rfl (RD.assign rfl) rfl ?_
    refine TE_nil0 ?_
    refine pn_ret ?_
    exact pn_doneS [] rfl rfl ⟨(congrArg (Value.int .i64) (great_1 (by omega))), rfl⟩ (fun _ => Nat.zero_le _) (fun _ he => nomatch he)
  · simp only [Bool.or_eq_false_iff, decide_eq_false_iff_not] at hc4
    refine pn_skip ?_
    refine pn_seq ?_
    refine pn_seq ?_
    refine pn_plain [] rfl ?_
    refine TE_q rfl rfl (RD.assign rfl) rfl ?_
    refine TE_nil0 ?_
    refine pn_block ?_
    refine pn_loopS (σ := Nat) (fun q => [(1, .pointer (some ⟨b1, 0, none⟩)), (3, .int .i64 (q : Int))]) (fun q => ((b1, .cells (objV x xd xe xp).cells 48 (0, 0)) :: HX)) (fun q => (q ≤ x.ents.length) ∧ (∀ j, j < q → (gt x.ents j).name.size ≤ 100)) (fun q => x.ents.length - q) 0 ⟨(by omega), (fun j hj => absurd hj (Nat.not_lt_zero _))⟩ ⟨rfl, rfl, trivial⟩ (fun a => by simp -failIfUnchanged <;> omega) ?_
    rintro i ⟨hi, hall⟩
    refine pn_seq ?_
    refine pn_seq ?_
    refine pn_plain [3] rfl ?_
    refine TE_q rfl rfl (RD.move rfl) rfl ?_
    refine TE_q rfl rfl (RD.fieldAddr (o := 2) Tryz.runUnderlying48 rfl rfl Tryz.sizeOf43 rfl) rfl ?_
    refine TE_l rfl rfl trivial rfl (RD.load (i := 0) (v := xe) Tryz.isAgg43 rfl rfl rfl) rfl ?_
    refine TE_q rfl rfl (RD.lenX Tryz.runUnderlying43 rfl hbxe) rfl ?_
    refine TE_q rfl rfl (RD.lss rfl rfl) rfl ?_
    refine TE_nil0 ?_
    refine pn_condD rfl (fun hc5 => ?_) (fun hc5 => ?_)
    · refine pn_skip ?_
      refine pn_seq ?_
      refine pn_block ?_
      refine pn_seq ?_
      refine pn_plain [6] rfl ?_
      refine TE_q rfl rfl (RD.fieldAddr (o := 2) Tryz.runUnderlying48 rfl rfl Tryz.sizeOf43 rfl) rfl ?_
      refine TE_l rfl rfl trivial rfl (RD.load (i := 0) (v := xe) Tryz.isAgg43 rfl rfl rfl) rfl ?_
      refine TE_q rfl rfl (RD.move rfl) rfl ?_
      refine TE_q rfl rfl (RD.idxR (i := i) (o := (i * 34 + 0)) Tryz.runUnderlying43 Tryz.sizeOf97 rfl hbxe rfl rfl (by omega) (by rfl)) rfl ?_
      refine TE_q rfl rfl (RD.fldR (i := i) (o' := (i * 34 + 0)) Tryz.runUnderlying97 rfl (by rfl) Tryz.sizeOf9 rfl hbxe (by omega)) rfl ?_
      refine TE_l rfl rfl trivial rfl (RD.ldR (i := i) (j := 0) (u := .string ((gt x.ents i).name)) Tryz.isAgg9 rfl hbxe (gt_some (by omega)) (by rfl) rfl (fun _ hw => hw.sp (fun a => by simp -failIfUnchanged <;> omega))) rfl ?_
      refine TE_q rfl rfl (RD.len_string Tryz.runUnderlying9 rfl) rfl ?_
      refine TE_q rfl rfl (RD.gtr rfl rfl) rfl ?_
      refine TE_nil0 ?_
      refine pn_condD rfl (fun hc6 => ?_) (fun hc6 => ?_)
      · refine pn_seq ?_
        refine pn_plainG [] [] rfl (fun a => by simp -failIfUnchanged <;> omega) ?_
        refine TE_q rfl rfl (RD.assign rfl) rfl ?_
        refine TE_nil0 ?_
        refine pn_ret ?_
        exact pn_doneS [] rfl rfl ⟨(congrArg (Value.int .i64) (great_2 (i := i) (by omega) (by omega))), rfl⟩ (fun _ => Nat.zero_le _) (fun _ he => nomatch he)
      · refine pn_skip ?_
        refine pn_plain [] rfl ?_
        refine TE_q rfl rfl (RD.move rfl) rfl ?_
        refine TE_q rfl rfl (RD.addI rfl rfl (by omega) (by omega)) rfl ?_
        refine TE_q rfl rfl (RD.assign rfl) rfl ?_
        refine TE_nil0 ?_
        exact pn_againS (i + 1) ⟨(by omega), (fun j hj => by rcases Nat.lt_or_ge j i with h | h; exact hall j h; obtain rfl : j = i := (by omega); omega)⟩ (by omega) ⟨rfl, rfl, trivial⟩ (fun a => by simp -failIfUnchanged <;> omega)
    · refine pn_exit ?_
      refine pn_seq ?_
      refine pn_plainG [] [] rfl (fun a => by simp -failIfUnchanged <;> omega) ?_
      refine TE_q rfl rfl (RD.assign rfl) rfl ?_
      refine TE_nil0 ?_
      refine pn_ret ?_
      exact pn_doneS [] rfl rfl ⟨(congrArg (Value.int .i64) (great_3 (by omega) (by omega) (by omega) (by omega) fun j hj => hall j (by omega))), rfl⟩ (fun _ => Nat.zero_le _) (fun _ he => nomatch he)

end Go.Proofs.YtloljpefdecmhaaGreatDoor

namespace Go.Proofs.YtloljpefdecmhaaGreatDoor
open Go Go.Mv
set_option maxRecDepth 8000
theorem chkT {x : Ob} {e : Bool} (h : obOkB x = e) (hc : e = true) : (0 : Int) = err (obOkB x) 70 := by rw [h, hc]; rfl
theorem chkF {x : Ob} {e : Bool} (h : obOkB x = e) (hc : e = false) : (70 : Int) = err (obOkB x) 70 := by rw [h, hc]; rfl
theorem idZ_symm (t : Nat → Int) : sameN 32 zId t = idZ t := by
  rw [Bool.eq_iff_iff, idZ, sameN_iff, sameN_iff]
  exact ⟨fun h i hi => (h i hi).symm, fun h i hi => (h i hi).symm⟩
theorem zLnk_same (g : Lnk) : same_lnk zLnk g = (decide (g.k = 0) && idZ g.id) := by
  simp only [same_lnk, zLnk, idZ_symm, Bool.and_true]
  congr 1
  exact decide_eq_decide.2 ⟨Eq.symm, Eq.symm⟩
theorem nilI_same (l : List (Nat → Int)) : sameIL [] l = !decide (0 < (l.length : Int)) := by
  cases l with
  | nil => rfl
  | cons a l => rw [show sameIL [] (a :: l) = false from rfl, decide_eq_true (by simp)]; rfl
theorem nilE_same (l : List Ent) : sameGL same_ent [] l = !decide (0 < (l.length : Int)) := by
  cases l with
  | nil => rfl
  | cons a l => rw [show sameGL same_ent [] (a :: l) = false from rfl, decide_eq_true (by simp)]; rfl
theorem nilD_same (l : List UInt8) : decide ([] = l) = !decide (0 < (l.length : Int)) := by
  cases l with
  | nil => rfl
  | cons a l => rw [decide_eq_true (p := 0 < ((a :: l).length : Int)) (by simp)]; rfl
theorem nilS_same (s : ByteArray) : decide (⟨#[]⟩ = s) = !decide (0 < (s.size : Int)) := by
  by_cases h : s.size = 0
  · obtain rfl : s = ⟨#[]⟩ := by
      apply ByteArray.ext
      exact Array.eq_empty_of_size_eq_zero h
    rfl
  · rw [decide_eq_true (p := 0 < (s.size : Int)) (by omega), decide_eq_false (fun e => h (by rw [← e]; rfl))]; rfl
theorem sameIL_refl (l : List (Nat → Int)) : sameIL l l = true := sameIL_self l
theorem chk1 {x : Ob} (hk : x.k = 1) : obOkB x = (decide ((x.data.length : Int) ≤ 1024) && (!decide (0 < (x.ents.length : Int)) && (!(decide (0 < (x.pars.length : Int)) || !idZ x.t) && (!decide (0 < (x.m.size : Int)) && (decide (x.tg.k = 0) && idZ x.tg.id))))) := by
  have e1 : decide ((x.data.length : Int) ≤ 1024) = decide (x.data.length ≤ 1024) := decide_eq_decide.2 (by omega)
  simp only [obOkB, mayB, bareOb, hk, if_true, obSame, nilE_same, idZ_symm, nilI_same, zLnk_same, nilS_same, e1, Bool.not_or, Bool.not_not]
  generalize decide (x.data.length ≤ 1024) = a
  generalize decide (0 < (x.ents.length : Int)) = b
  generalize idZ x.t = c
  generalize decide (0 < (x.pars.length : Int)) = d
  generalize decide (x.tg.k = 0) = e
  generalize idZ x.tg.id = f
  generalize decide (0 < (x.m.size : Int)) = g
  cases a <;> cases b <;> cases c <;> cases d <;> cases e <;> cases f <;> cases g <;> rfl
theorem chk2 {x : Ob} (hk : x.k = 2) : obOkB x = (treeB x.ents && (!decide (0 < (x.data.length : Int)) && (!(decide (0 < (x.pars.length : Int)) || !idZ x.t) && (!decide (0 < (x.m.size : Int)) && (decide (x.tg.k = 0) && idZ x.tg.id))))) := by
  have h21 : ¬ (2 : Int) = 1 := by decide
  simp only [obOkB, mayB, bareOb, hk, h21, if_true, if_false, obSame, Bool.true_and, sameG_self same_ent_self, nilD_same, idZ_symm, nilI_same, zLnk_same, nilS_same, Bool.not_or, Bool.not_not]
  generalize treeB x.ents = a
  generalize decide (0 < (x.data.length : Int)) = b
  generalize idZ x.t = c
  generalize decide (0 < (x.pars.length : Int)) = d
  generalize decide (x.tg.k = 0) = e
  generalize idZ x.tg.id = f
  generalize decide (0 < (x.m.size : Int)) = g
  cases a <;> cases b <;> cases c <;> cases d <;> cases e <;> cases f <;> cases g <;> rfl
theorem chk3 {x : Ob} (hk : x.k = 3) : obOkB x = (parsB x.pars && (decide ((x.m.size : Int) ≤ 200) && (!decide (0 < (x.data.length : Int)) && (!decide (0 < (x.ents.length : Int)) && (decide (x.tg.k = 0) && idZ x.tg.id))))) := by
  have h31 : ¬ (3 : Int) = 1 := by decide
  have h32 : ¬ (3 : Int) = 2 := by decide
  have e1 : decide ((x.m.size : Int) ≤ 200) = decide (x.m.size ≤ 200) := decide_eq_decide.2 (by omega)
  simp only [obOkB, mayB, bareOb, hk, h31, h32, if_true, if_false, obSame, Bool.true_and, nilE_same, nilD_same, sameN_self, sameIL_refl, zLnk_same, e1]
  generalize parsB x.pars = a
  generalize decide (0 < (x.data.length : Int)) = b
  generalize decide (0 < (x.ents.length : Int)) = d
  generalize decide (x.tg.k = 0) = e
  generalize idZ x.tg.id = f
  generalize decide (x.m.size ≤ 200) = g
  cases a <;> cases b <;> cases d <;> cases e <;> cases f <;> cases g <;> rfl
theorem chk4 {x : Ob} (hk : x.k = 4) : obOkB x = (decide (1 ≤ x.tg.k) && (decide (x.tg.k ≤ 4) && (decide ((x.m.size : Int) ≤ 200) && (!decide (0 < (x.data.length : Int)) && (!decide (0 < (x.ents.length : Int)) && !(decide (0 < (x.pars.length : Int)) || !idZ x.t)))))) := by
  have h41 : ¬ (4 : Int) = 1 := by decide
  have h42 : ¬ (4 : Int) = 2 := by decide
  have h43 : ¬ (4 : Int) = 3 := by decide
  have e1 : decide ((x.m.size : Int) ≤ 200) = decide (x.m.size ≤ 200) := decide_eq_decide.2 (by omega)
  simp only [obOkB, mayB, bareOb, hk, h41, h42, h43, if_true, if_false, obSame, Bool.true_and, nilE_same, nilD_same, idZ_symm, nilI_same, same_lnk_self, e1, Bool.not_or, Bool.not_not]
  generalize decide (1 ≤ x.tg.k) = a
  generalize decide (0 < (x.data.length : Int)) = b
  generalize decide (0 < (x.ents.length : Int)) = d
  generalize decide (x.tg.k ≤ 4) = e
  generalize idZ x.t = f
  generalize decide (0 < (x.pars.length : Int)) = h
  generalize decide (x.m.size ≤ 200) = g
  cases a <;> cases b <;> cases d <;> cases e <;> cases f <;> cases g <;> cases h <;> rfl
theorem chk0 {x : Ob} (h1 : ¬ x.k = 1) (h2 : ¬ x.k = 2) (h3 : ¬ x.k = 3) (h4 : ¬ x.k = 4) : obOkB x = false := by
  simp only [obOkB, mayB, h1, h2, h3, h4, if_false, Bool.false_and]

end Go.Proofs.YtloljpefdecmhaaGreatDoor
