import Derived.Test.YtjdjlcmajeikcaaObm
import Derived.Test.YtjdjlcmajeikcaaSet
namespace Go.Proofs.Ytjdjlcmajeikcaa
open Go Go.Mv
set_option maxRecDepth 8000
theorem c_equalE (xsv : Value) (xs : List Ent) (ysv : Value) (ys : List Ent) (HX : Mem) (w : World) (hbxs : Rdx 34 (entC) HX xsv xs) (hlxs : xs.length ≤ 1000000) (hbys : Rdx 34 (entC) HX ysv ys) (hlys : ys.length ≤ 1000000) (hH : Hp HX w) : Calls Try.prog 19 #[xsv, ysv] w (Ret w [] fun v H1 => v = .bool (sameGL same_ent xs ys) ∧ H1 = []) := by
  refine fn_enter (args := [_, _]) Try.func19 rfl Try.ntmps19 rfl hH ?_
  refine pn_seq ?_
  refine pn_plain [] rfl ?_
  refine TE_q rfl rfl (RD.assign rfl) rfl ?_
  refine TE_nil0 ?_
  refine pn_seq ?_
  refine pn_seq ?_
  refine pn_plain [1, 3] rfl ?_
  refine TE_q rfl rfl (RD.move rfl) rfl ?_
  refine TE_q rfl rfl (RD.lenX Try.runUnderlying23 rfl hbxs) rfl ?_
  refine TE_q rfl rfl (RD.move rfl) rfl ?_
  refine TE_q rfl rfl (RD.lenX Try.runUnderlying23 rfl hbys) rfl ?_
  refine TE_q rfl rfl (RD.neq rfl rfl) rfl ?_
  refine TE_nil0 ?_
  refine pn_condN rfl (fun hc1 => ?_) (fun hc1 => ?_)
  · refine pn_seq ?_
    refine pn_plainG [] [] rfl (fun a => by simp -failIfUnchanged <;> omega) ?_
    refine TE_q rfl rfl (RD.assign rfl) rfl ?_
    refine TE_nil0 ?_
    refine pn_ret ?_
    exact pn_doneS [] rfl rfl ⟨(congrArg Value.bool (sameG_len (by omega)).symm), rfl⟩ (fun _ => Nat.zero_le _) (fun _ he => nomatch he)
  · refine pn_skip ?_
    refine pn_seq ?_
    refine pn_seq ?_
    refine pn_plain [1] rfl ?_
    refine TE_q rfl rfl (RD.move rfl) rfl ?_
    refine TE_q rfl rfl (RD.lenX Try.runUnderlying23 rfl hbxs) rfl ?_
    refine TE_q rfl rfl (RD.move rfl) rfl ?_
    refine TE_nil0 ?_
    refine pn_block ?_
    refine pn_loopS (σ := Nat) (fun q => [(0, xsv), (1, ysv), (12, .int .i64 (xs.length : Int)), (13, .int .i64 (q : Int))]) (fun q => HX) (fun q => (q ≤ xs.length) ∧ (∀ j, j < q → same_ent (gt xs j) (gt ys j) = true)) (fun q => xs.length - q) 0 ⟨(by omega), (fun j hj => absurd hj (Nat.not_lt_zero _))⟩ ⟨rfl, rfl, rfl, rfl, trivial⟩ (fun a => by simp -failIfUnchanged <;> omega) ?_
    rintro i ⟨hi, hall⟩
    refine pn_seq ?_
    refine pn_plain [] rfl ?_
    refine TE_q rfl rfl (RD.lss rfl rfl) rfl ?_
    refine TE_nil0 ?_
    refine pn_seq ?_
    refine pn_condD rfl (fun hc2 => ?_) (fun hc2 => ?_)
    · refine pn_skip ?_
      refine pn_seq ?_
      refine pn_block ?_
      refine pn_seq ?_
      refine pn_plain [] rfl ?_
      refine TE_q rfl rfl (RD.move rfl) rfl ?_
      refine TE_q rfl rfl (RD.assign rfl) rfl ?_
      refine TE_nil0 ?_
      refine pn_seq ?_
      refine pn_drawG [3, 7] [] HX rfl rfl (by kernel_rfl) (fun a => by simp -failIfUnchanged <;> omega) ?_
      refine TE_q rfl rfl (RD.move rfl) rfl ?_
      refine TE_q rfl rfl (RD.move rfl) rfl ?_
      refine TE_q rfl rfl (RD.idxR (i := i) (o := (i * 34 + 0)) Try.runUnderlying23 Try.sizeOf38 rfl hbxs rfl rfl (by omega) (by rfl)) rfl ?_
      refine TE_q rfl rfl (RD.ldRA (i := i) (j := 0) (vs := (entC (gt xs i))) Try.isAgg38 Try.sizeOf38 rfl hbxs (gt_some (by omega)) (by rfl) rfl (fun _ _ hu => by rw [Nat.zero_add]; exact hu) (entC_agg _) (fun _ hw => hw.sp (fun a => by simp -failIfUnchanged <;> omega))) rfl ?_
      refine TE_q rfl rfl (RD.move rfl) rfl ?_
      refine TE_q rfl rfl (RD.move rfl) rfl ?_
      refine TE_q rfl rfl (RD.idxR (i := i) (o := (i * 34 + 0)) Try.runUnderlying23 Try.sizeOf38 rfl hbys rfl rfl (by omega) (by rfl)) rfl ?_
      refine TE_q rfl rfl (RD.ldRA (i := i) (j := 0) (vs := (entC (gt ys i))) Try.isAgg38 Try.sizeOf38 rfl hbys (gt_some (by omega)) (by rfl) rfl (fun _ _ hu => by rw [Nat.zero_add]; exact hu) (entC_agg _) (fun _ hw => hw.sp (fun a => by simp -failIfUnchanged <;> omega))) rfl ?_
      refine TE_q rfl rfl (RD.neq_agg Try.eqGuardType38 (eq_ent (gt xs i) (gt ys i)) rfl rfl) rfl ?_
      refine TE_nil ?_
      refine pn_cond rfl (fun hc3 => ?_) (fun hc3 => ?_)
      · simp only [Bool.not_eq_true'] at hc3
        refine pn_seq ?_
        refine pn_plainG [] [] rfl (fun a => by simp -failIfUnchanged <;> omega) ?_
        refine TE_q rfl rfl (RD.assign rfl) rfl ?_
        refine TE_nil0 ?_
        refine pn_ret ?_
        exact pn_doneS [] rfl rfl ⟨(congrArg Value.bool (sameG_F (f := same_ent) (i := i) (by omega) (by omega) (by assumption)).symm), rfl⟩ (fun _ => Nat.zero_le _) (fun _ he => nomatch he)
      · simp only [Bool.not_eq_false'] at hc3
        refine pn_skip ?_
        refine pn_plainG [] HX rfl (fun a => by simp -failIfUnchanged <;> omega) ?_
        refine TE_q rfl rfl (RD.addI rfl rfl (by omega) (by omega)) rfl ?_
        refine TE_q rfl rfl (RD.move rfl) rfl ?_
        refine TE_nil0 ?_
        exact pn_againS (i + 1) ⟨(by omega), (fun j hj => by rcases Nat.lt_or_ge j i with h | h; exact hall j h; obtain rfl : j = i := (by omega); assumption)⟩ (by omega) ⟨rfl, rfl, rfl, rfl, trivial⟩ (fun a => by simp -failIfUnchanged <;> omega)
    · refine pn_exit ?_
      refine pn_seq ?_
      refine pn_plainG [] [] rfl (fun a => by simp -failIfUnchanged <;> omega) ?_
      refine TE_q rfl rfl (RD.assign rfl) rfl ?_
      refine TE_nil0 ?_
      refine pn_ret ?_
      exact pn_doneS [] rfl rfl ⟨(congrArg Value.bool (sameG_T (f := same_ent) (by omega) fun j hj => hall j (by omega)).symm), rfl⟩ (fun _ => Nat.zero_le _) (fun _ he => nomatch he)

theorem c_equalI (xsv : Value) (xs : List ((Nat → Int))) (ysv : Value) (ys : List ((Nat → Int))) (HX : Mem) (w : World) (hbxs : Rdx 32 (idC) HX xsv xs) (hlxs : xs.length ≤ 1000000) (hbys : Rdx 32 (idC) HX ysv ys) (hlys : ys.length ≤ 1000000) (hH : Hp HX w) : Calls Try.prog 20 #[xsv, ysv] w (Ret w [] fun v H1 => v = .bool (sameIL xs ys) ∧ H1 = []) := by
  refine fn_enter (args := [_, _]) Try.func20 rfl Try.ntmps20 rfl hH ?_
  refine pn_seq ?_
  refine pn_plain [] rfl ?_
  refine TE_q rfl rfl (RD.assign rfl) rfl ?_
  refine TE_nil0 ?_
  refine pn_seq ?_
  refine pn_seq ?_
  refine pn_plain [1, 3] rfl ?_
  refine TE_q rfl rfl (RD.move rfl) rfl ?_
  refine TE_q rfl rfl (RD.lenX Try.runUnderlying26 rfl hbxs) rfl ?_
  refine TE_q rfl rfl (RD.move rfl) rfl ?_
  refine TE_q rfl rfl (RD.lenX Try.runUnderlying26 rfl hbys) rfl ?_
  refine TE_q rfl rfl (RD.neq rfl rfl) rfl ?_
  refine TE_nil0 ?_
  refine pn_condN rfl (fun hc1 => ?_) (fun hc1 => ?_)
  · refine pn_seq ?_
    refine pn_plainG [] [] rfl (fun a => by simp -failIfUnchanged <;> omega) ?_
    refine TE_q rfl rfl (RD.assign rfl) rfl ?_
    refine TE_nil0 ?_
    refine pn_ret ?_
    exact pn_doneS [] rfl rfl ⟨(congrArg Value.bool (((sameG_len (by omega)).symm).trans (sameIG_eq _ _).symm)), rfl⟩ (fun _ => Nat.zero_le _) (fun _ he => nomatch he)
  · refine pn_skip ?_
    refine pn_seq ?_
    refine pn_seq ?_
    refine pn_plain [1] rfl ?_
    refine TE_q rfl rfl (RD.move rfl) rfl ?_
    refine TE_q rfl rfl (RD.lenX Try.runUnderlying26 rfl hbxs) rfl ?_
    refine TE_q rfl rfl (RD.move rfl) rfl ?_
    refine TE_nil0 ?_
    refine pn_block ?_
    refine pn_loopS (σ := Nat) (fun q => [(0, xsv), (1, ysv), (12, .int .i64 (xs.length : Int)), (13, .int .i64 (q : Int))]) (fun q => HX) (fun q => (q ≤ xs.length) ∧ (∀ j, j < q → (sameN 32) (gt xs j) (gt ys j) = true)) (fun q => xs.length - q) 0 ⟨(by omega), (fun j hj => absurd hj (Nat.not_lt_zero _))⟩ ⟨rfl, rfl, rfl, rfl, trivial⟩ (fun a => by simp -failIfUnchanged <;> omega) ?_
    rintro i ⟨hi, hall⟩
    refine pn_seq ?_
    refine pn_plain [] rfl ?_
    refine TE_q rfl rfl (RD.lss rfl rfl) rfl ?_
    refine TE_nil0 ?_
    refine pn_seq ?_
    refine pn_condD rfl (fun hc2 => ?_) (fun hc2 => ?_)
    · refine pn_skip ?_
      refine pn_seq ?_
      refine pn_block ?_
      refine pn_seq ?_
      refine pn_plain [] rfl ?_
      refine TE_q rfl rfl (RD.move rfl) rfl ?_
      refine TE_q rfl rfl (RD.assign rfl) rfl ?_
      refine TE_nil0 ?_
      refine pn_seq ?_
      refine pn_drawG [3, 7] [] HX rfl rfl (by kernel_rfl) (fun a => by simp -failIfUnchanged <;> omega) ?_
      refine TE_q rfl rfl (RD.move rfl) rfl ?_
      refine TE_q rfl rfl (RD.move rfl) rfl ?_
      refine TE_q rfl rfl (RD.idxR (i := i) (o := (i * 32 + 0)) Try.runUnderlying26 Try.sizeOf25 rfl hbxs rfl rfl (by omega) (by rfl)) rfl ?_
      refine TE_q rfl rfl (RD.ldRA (i := i) (j := 0) (vs := (idC (gt xs i))) Try.isAgg25 Try.sizeOf25 rfl hbxs (gt_some (by omega)) (by rfl) rfl (fun _ _ hu => by rw [Nat.zero_add]; exact hu) (idC_agg _) (fun _ hw => hw.sp (fun a => by simp -failIfUnchanged <;> omega))) rfl ?_
      refine TE_q rfl rfl (RD.move rfl) rfl ?_
      refine TE_q rfl rfl (RD.move rfl) rfl ?_
      refine TE_q rfl rfl (RD.idxR (i := i) (o := (i * 32 + 0)) Try.runUnderlying26 Try.sizeOf25 rfl hbys rfl rfl (by omega) (by rfl)) rfl ?_
      refine TE_q rfl rfl (RD.ldRA (i := i) (j := 0) (vs := (idC (gt ys i))) Try.isAgg25 Try.sizeOf25 rfl hbys (gt_some (by omega)) (by rfl) rfl (fun _ _ hu => by rw [Nat.zero_add]; exact hu) (idC_agg _) (fun _ hw => hw.sp (fun a => by simp -failIfUnchanged <;> omega))) rfl ?_
      refine TE_q rfl rfl (RD.neq_agg Try.eqGuardType25 (eq_id (gt xs i) (gt ys i)) rfl rfl) rfl ?_
      refine TE_nil ?_
      refine pn_cond rfl (fun hc3 => ?_) (fun hc3 => ?_)
      · simp only [Bool.not_eq_true'] at hc3
        refine pn_seq ?_
        refine pn_plainG [] [] rfl (fun a => by simp -failIfUnchanged <;> omega) ?_
        refine TE_q rfl rfl (RD.assign rfl) rfl ?_
        refine TE_nil0 ?_
        refine pn_ret ?_
        exact pn_doneS [] rfl rfl ⟨(congrArg Value.bool (((sameG_F (f := (sameN 32)) (i := i) (by omega) (by omega) (by assumption)).symm).trans (sameIG_eq _ _).symm)), rfl⟩ (fun _ => Nat.zero_le _) (fun _ he => nomatch he)
      · simp only [Bool.not_eq_false'] at hc3
        refine pn_skip ?_
        refine pn_plainG [] HX rfl (fun a => by simp -failIfUnchanged <;> omega) ?_
        refine TE_q rfl rfl (RD.addI rfl rfl (by omega) (by omega)) rfl ?_
        refine TE_q rfl rfl (RD.move rfl) rfl ?_
        refine TE_nil0 ?_
        exact pn_againS (i + 1) ⟨(by omega), (fun j hj => by rcases Nat.lt_or_ge j i with h | h; exact hall j h; obtain rfl : j = i := (by omega); assumption)⟩ (by omega) ⟨rfl, rfl, rfl, rfl, trivial⟩ (fun a => by simp -failIfUnchanged <;> omega)
    · refine pn_exit ?_
      refine pn_seq ?_
      refine pn_plainG [] [] rfl (fun a => by simp -failIfUnchanged <;> omega) ?_
      refine TE_q rfl rfl (RD.assign rfl) rfl ?_
      refine TE_nil0 ?_
      refine pn_ret ?_
      exact pn_doneS [] rfl rfl ⟨(congrArg Value.bool (((sameG_T (f := (sameN 32)) (by omega) fun j hj => hall j (by omega)).symm).trans (sameIG_eq _ _).symm)), rfl⟩ (fun _ => Nat.zero_le _) (fun _ he => nomatch he)

theorem c_r7Lists (xsv : Value) (xs : List Lnk) (ysv : Value) (ys : List Lnk) (HX : Mem) (w : World) (hbxs : Rdx 33 (lnkC) HX xsv xs) (hlxs : xs.length ≤ 1000000) (hbys : Rdx 33 (lnkC) HX ysv ys) (hlys : ys.length ≤ 1000000) (hH : Hp HX w) : Calls Try.prog 8 #[xsv, ysv] w (Ret w [] fun v H1 => v = .bool (sameGL same_lnk xs ys) ∧ H1 = []) := by
  refine fn_enter (args := [_, _]) Try.func8 rfl Try.ntmps8 rfl hH ?_
  refine pn_seq ?_
  refine pn_plain [] rfl ?_
  refine TE_q rfl rfl (RD.assign rfl) rfl ?_
  refine TE_nil0 ?_
  refine pn_seq ?_
  refine pn_seq ?_
  refine pn_plain [1, 3] rfl ?_
  refine TE_q rfl rfl (RD.move rfl) rfl ?_
  refine TE_q rfl rfl (RD.lenX Try.runUnderlying33 rfl hbxs) rfl ?_
  refine TE_q rfl rfl (RD.move rfl) rfl ?_
  refine TE_q rfl rfl (RD.lenX Try.runUnderlying33 rfl hbys) rfl ?_
  refine TE_q rfl rfl (RD.neq rfl rfl) rfl ?_
  refine TE_nil0 ?_
  refine pn_condN rfl (fun hc1 => ?_) (fun hc1 => ?_)
  · refine pn_seq ?_
    refine pn_plainG [] [] rfl (fun a => by simp -failIfUnchanged <;> omega) ?_
    refine TE_q rfl rfl (RD.assign rfl) rfl ?_
    refine TE_nil0 ?_
    refine pn_ret ?_
    exact pn_doneS [] rfl rfl ⟨(congrArg Value.bool (sameG_len (by omega)).symm), rfl⟩ (fun _ => Nat.zero_le _) (fun _ he => nomatch he)
  · refine pn_skip ?_
    refine pn_seq ?_
    refine pn_seq ?_
    refine pn_plain [] rfl ?_
    refine TE_q rfl rfl (RD.assign rfl) rfl ?_
    refine TE_nil0 ?_
    refine pn_block ?_
    refine pn_loopS (σ := Nat) (fun q => [(0, xsv), (1, ysv), (5, .int .i64 (q : Int))]) (fun q => HX) (fun q => (q ≤ xs.length) ∧ (∀ j, j < q → same_lnk (gt xs j) (gt ys j) = true)) (fun q => xs.length - q) 0 ⟨(by omega), (fun j hj => absurd hj (Nat.not_lt_zero _))⟩ ⟨rfl, rfl, rfl, trivial⟩ (fun a => by simp -failIfUnchanged <;> omega) ?_
    rintro i ⟨hi, hall⟩
    refine pn_seq ?_
    refine pn_seq ?_
    refine pn_plain [2] rfl ?_
    refine TE_q rfl rfl (RD.move rfl) rfl ?_
    refine TE_q rfl rfl (RD.move rfl) rfl ?_
    refine TE_q rfl rfl (RD.lenX Try.runUnderlying33 rfl hbxs) rfl ?_
    refine TE_q rfl rfl (RD.lss rfl rfl) rfl ?_
    refine TE_nil0 ?_
    refine pn_condD rfl (fun hc2 => ?_) (fun hc2 => ?_)
    · refine pn_skip ?_
      refine pn_seq ?_
      refine pn_block ?_
      refine pn_seq ?_
      refine pn_drawG [3, 7] [] HX rfl rfl (by kernel_rfl) (fun a => by simp -failIfUnchanged <;> omega) ?_
      refine TE_q rfl rfl (RD.move rfl) rfl ?_
      refine TE_q rfl rfl (RD.move rfl) rfl ?_
      refine TE_q rfl rfl (RD.idxR (i := i) (o := (i * 33 + 0)) Try.runUnderlying33 Try.sizeOf28 rfl hbxs rfl rfl (by omega) (by rfl)) rfl ?_
      refine TE_q rfl rfl (RD.ldRA (i := i) (j := 0) (vs := (lnkC (gt xs i))) Try.isAgg28 Try.sizeOf28 rfl hbxs (gt_some (by omega)) (by rfl) rfl (fun _ _ hu => by rw [Nat.zero_add]; exact hu) (lnkC_agg _) (fun _ hw => hw.sp (fun a => by simp -failIfUnchanged <;> omega))) rfl ?_
      refine TE_q rfl rfl (RD.move rfl) rfl ?_
      refine TE_q rfl rfl (RD.move rfl) rfl ?_
      refine TE_q rfl rfl (RD.idxR (i := i) (o := (i * 33 + 0)) Try.runUnderlying33 Try.sizeOf28 rfl hbys rfl rfl (by omega) (by rfl)) rfl ?_
      refine TE_q rfl rfl (RD.ldRA (i := i) (j := 0) (vs := (lnkC (gt ys i))) Try.isAgg28 Try.sizeOf28 rfl hbys (gt_some (by omega)) (by rfl) rfl (fun _ _ hu => by rw [Nat.zero_add]; exact hu) (lnkC_agg _) (fun _ hw => hw.sp (fun a => by simp -failIfUnchanged <;> omega))) rfl ?_
      refine TE_q rfl rfl (RD.neq_agg Try.eqGuardType28 (eq_lnk (gt xs i) (gt ys i)) rfl rfl) rfl ?_
      refine TE_nil ?_
      refine pn_cond rfl (fun hc3 => ?_) (fun hc3 => ?_)
      · simp only [Bool.not_eq_true'] at hc3
        refine pn_seq ?_
        refine pn_plainG [] [] rfl (fun a => by simp -failIfUnchanged <;> omega) ?_
        refine TE_q rfl rfl (RD.assign rfl) rfl ?_
        refine TE_nil0 ?_
        refine pn_ret ?_
        exact pn_doneS [] rfl rfl ⟨(congrArg Value.bool (sameG_F (f := same_lnk) (i := i) (by omega) (by omega) (by assumption)).symm), rfl⟩ (fun _ => Nat.zero_le _) (fun _ he => nomatch he)
      · simp only [Bool.not_eq_false'] at hc3
        refine pn_skip ?_
        refine pn_plainG [] HX rfl (fun a => by simp -failIfUnchanged <;> omega) ?_
        refine TE_q rfl rfl (RD.move rfl) rfl ?_
        refine TE_q rfl rfl (RD.addI rfl rfl (by omega) (by omega)) rfl ?_
        refine TE_q rfl rfl (RD.assign rfl) rfl ?_
        refine TE_nil0 ?_
        exact pn_againS (i + 1) ⟨(by omega), (fun j hj => by rcases Nat.lt_or_ge j i with h | h; exact hall j h; obtain rfl : j = i := (by omega); assumption)⟩ (by omega) ⟨rfl, rfl, rfl, trivial⟩ (fun a => by simp -failIfUnchanged <;> omega)
    · refine pn_exit ?_
      refine pn_seq ?_
      refine pn_plainG [] [] rfl (fun a => by simp -failIfUnchanged <;> omega) ?_
      refine TE_q rfl rfl (RD.assign rfl) rfl ?_
      refine TE_nil0 ?_
      refine pn_ret ?_
      exact pn_doneS [] rfl rfl ⟨(congrArg Value.bool (sameG_T (f := same_lnk) (by omega) fun j hj => hall j (by omega)).symm), rfl⟩ (fun _ => Nat.zero_le _) (fun _ he => nomatch he)

theorem c_bytesEqual (xsv : Value) (xs : List UInt8) (ysv : Value) (ys : List UInt8) (HX : Mem) (w : World) (hbxs : Rdb HX xsv xs) (hbys : Rdb HX ysv ys) (hH : Hp HX w) : Calls Try.prog 18 #[xsv, ysv] w (Ret w [] fun v H1 => v = .bool (decide (xs = ys)) ∧ H1 = []) := by
  refine fn_enter (args := [_, _]) Try.func18 rfl Try.ntmps18 rfl hH ?_
  refine pn_seq ?_
  refine pn_plain [] rfl ?_
  refine TE_q rfl rfl (RD.assign rfl) rfl ?_
  refine TE_nil0 ?_
  refine pn_seq ?_
  refine pn_plain [] rfl ?_
  refine TE_q rfl rfl (RD.move rfl) rfl ?_
  refine TE_l rfl rfl trivial rfl (RD.str_of_bytes Try.underlying22 Try.underlying9 Try.underlying5 rfl (BytesIn.mono (hbxs).bytes (fun _ hw => hw.sp (fun a => by simp -failIfUnchanged <;> omega)))) rfl ?_
  refine TE_q rfl rfl (RD.move rfl) rfl ?_
  refine TE_l rfl rfl trivial rfl (RD.str_of_bytes Try.underlying22 Try.underlying9 Try.underlying5 rfl (BytesIn.mono (hbys).bytes (fun _ hw => hw.sp (fun a => by simp -failIfUnchanged <;> omega)))) rfl ?_
  refine TE_q rfl rfl (RD.eql_string rfl rfl) rfl ?_
  refine TE_q rfl rfl (RD.assign rfl) rfl ?_
  refine TE_nil0 ?_
  refine pn_ret ?_
  exact pn_doneS [] rfl rfl ⟨(congrArg Value.bool (decide_eq_decide.2 ba_eq)), rfl⟩ (fun _ => Nat.zero_le _) (fun _ he => nomatch he)

theorem c_great (x : Ob) (xd : Value) (xe : Value) (xp : Value) (HX : Mem) (w : World) (hbxd : Rdb HX xd x.data) (hbxe : Rdx 34 (entC) HX xe x.ents) (hbxp : Rdx 32 (idC) HX xp x.pars) (hox : ObW x) (hH : Hp HX w) : Calls Try.prog 5 #[objV x xd xe xp] w (Ret w [] fun v H1 => v = .int .i64 (greatI x) ∧ H1 = []) := by
  have hw1 := hox.d; have hw2 := hox.e; have hw3 := hox.p
  refine fn_enter (args := [_]) Try.func5 rfl Try.ntmps5 rfl hH ?_
  refine pn_seq ?_
  refine pn_plain [] rfl ?_
  refine TE_boxC (objV x xd xe xp).cells rfl rfl rfl trivial rfl fun b1 hb1 => ?_
  refine TE_q rfl rfl (RD.assign rfl) rfl ?_
  refine TE_nil0 ?_
  refine pn_seq ?_
  refine pn_seq ?_
  refine pn_plain [2, 7, 13, 19] rfl ?_
  refine TE_q rfl rfl (RD.fieldAddr (o := 1) Try.runUnderlying30 rfl rfl Try.sizeOf22 rfl) rfl ?_
  refine TE_l rfl rfl trivial rfl (RD.load (i := 0) (v := xd) Try.isAgg22 rfl rfl rfl) rfl ?_
  refine TE_q rfl rfl (RD.lenR Try.runUnderlying22 rfl hbxd) rfl ?_
  refine TE_q rfl rfl (RD.gtr rfl rfl) rfl ?_
  refine TE_q rfl rfl (RD.move rfl) rfl ?_
  refine TE_join (σ := Unit) (fun _ => [(1, .pointer (some ⟨b1, 0, none⟩)), (25, .bool ((decide (1100 < (x.data.length : Int))) || ((decide (40 < (x.ents.length : Int))) || ((decide (10 < (x.pars.length : Int))) || (decide (300 < (x.m.size : Int)))))))]) (fun _ => ((b1, .cells (objV x xd xe xp).cells 30 (0, 0)) :: HX)) (fun _ => True) ?_ ?_
  · refine TE_dec (fun hf1 => ?_) (fun hf1 => ?_)
    · refine TE_s rfl rfl rfl rfl rfl ?_
      refine TE_s rfl rfl rfl rfl rfl ?_
      refine TE_s rfl rfl rfl rfl rfl ?_
      refine TE_s rfl rfl rfl rfl rfl ?_
      refine TE_q rfl rfl (RD.pickT rfl rfl) rfl ?_
      refine TE_q rfl rfl (RD.move rfl) rfl ?_
      refine TE_s rfl rfl rfl rfl rfl ?_
      refine TE_s rfl rfl rfl rfl rfl ?_
      refine TE_s rfl rfl rfl rfl rfl ?_
      refine TE_s rfl rfl rfl rfl rfl ?_
      refine TE_q rfl rfl (RD.pickT rfl rfl) rfl ?_
      refine TE_q rfl rfl (RD.move rfl) rfl ?_
      refine TE_s rfl rfl rfl rfl rfl ?_
      refine TE_s rfl rfl rfl rfl rfl ?_
      refine TE_s rfl rfl rfl rfl rfl ?_
      refine TE_s rfl rfl rfl rfl rfl ?_
      refine TE_q rfl rfl (RD.pickT rfl rfl) rfl ?_
      refine TE_nil0 ?_
      exact pn_give () trivial ⟨rfl, congrArg (fun b => some (Value.bool b)) (by first | (simp [hf1]; done) | (simp only [decide_eq_true hf1]; rfl)), trivial⟩ (fun _ hw => hw.sp (fun a => by simp -failIfUnchanged <;> omega))
    · refine TE_gq rfl rfl rfl rfl (RD.fieldAddr (o := 2) Try.runUnderlying30 rfl rfl Try.sizeOf23 rfl) rfl ?_
      refine TE_l rfl rfl ⟨_, rfl, rfl⟩ rfl (RD.load (i := 0) (v := xe) Try.isAgg23 rfl rfl rfl) rfl ?_
      refine TE_gq rfl rfl rfl rfl (RD.lenX Try.runUnderlying23 rfl hbxe) rfl ?_
      refine TE_gq rfl rfl rfl rfl (RD.gtr rfl rfl) rfl ?_
      refine TE_q rfl rfl (RD.pickF rfl rfl) rfl ?_
      refine TE_q rfl rfl (RD.move rfl) rfl ?_
      refine TE_dec (fun hf2 => ?_) (fun hf2 => ?_)
      · refine TE_s rfl rfl rfl rfl rfl ?_
        refine TE_s rfl rfl rfl rfl rfl ?_
        refine TE_s rfl rfl rfl rfl rfl ?_
        refine TE_s rfl rfl rfl rfl rfl ?_
        refine TE_q rfl rfl (RD.pickT rfl rfl) rfl ?_
        refine TE_q rfl rfl (RD.move rfl) rfl ?_
        refine TE_s rfl rfl rfl rfl rfl ?_
        refine TE_s rfl rfl rfl rfl rfl ?_
        refine TE_s rfl rfl rfl rfl rfl ?_
        refine TE_s rfl rfl rfl rfl rfl ?_
        refine TE_q rfl rfl (RD.pickT rfl rfl) rfl ?_
        refine TE_nil0 ?_
        exact pn_give () trivial ⟨rfl, congrArg (fun b => some (Value.bool b)) (by first | (simp [hf1, hf2]; done) | (simp only [decide_eq_false hf1, decide_eq_true hf2]; rfl)), trivial⟩ (fun _ hw => hw.sp (fun a => by simp -failIfUnchanged <;> omega))
      · refine TE_gq rfl rfl rfl rfl (RD.fieldAddr (o := 35) Try.runUnderlying30 rfl rfl Try.sizeOf26 rfl) rfl ?_
        refine TE_l rfl rfl ⟨_, rfl, rfl⟩ rfl (RD.load (i := 0) (v := xp) Try.isAgg26 rfl rfl rfl) rfl ?_
        refine TE_gq rfl rfl rfl rfl (RD.lenX Try.runUnderlying26 rfl hbxp) rfl ?_
        refine TE_gq rfl rfl rfl rfl (RD.gtr rfl rfl) rfl ?_
        refine TE_q rfl rfl (RD.pickF rfl rfl) rfl ?_
        refine TE_q rfl rfl (RD.move rfl) rfl ?_
        refine TE_dec (fun hf3 => ?_) (fun hf3 => ?_)
        · refine TE_s rfl rfl rfl rfl rfl ?_
          refine TE_s rfl rfl rfl rfl rfl ?_
          refine TE_s rfl rfl rfl rfl rfl ?_
          refine TE_s rfl rfl rfl rfl rfl ?_
          refine TE_q rfl rfl (RD.pickT rfl rfl) rfl ?_
          refine TE_nil0 ?_
          exact pn_give () trivial ⟨rfl, congrArg (fun b => some (Value.bool b)) (by first | (simp [hf1, hf2, hf3]; done) | (simp only [decide_eq_false hf1, decide_eq_false hf2, decide_eq_true hf3]; rfl)), trivial⟩ (fun _ hw => hw.sp (fun a => by simp -failIfUnchanged <;> omega))
        · refine TE_gq rfl rfl rfl rfl (RD.fieldAddr (o := 69) Try.runUnderlying30 rfl rfl Try.sizeOf9 rfl) rfl ?_
          refine TE_l rfl rfl ⟨_, rfl, rfl⟩ rfl (RD.load (i := 0) (v := .string x.m) Try.isAgg9 rfl rfl rfl) rfl ?_
          refine TE_gq rfl rfl rfl rfl (RD.len_string Try.runUnderlying9 rfl) rfl ?_
          refine TE_gq rfl rfl rfl rfl (RD.gtr rfl rfl) rfl ?_
          refine TE_q rfl rfl (RD.pickF rfl rfl) rfl ?_
          refine TE_nil0 ?_
          exact pn_give () trivial ⟨rfl, congrArg (fun b => some (Value.bool b)) (by first | (simp [hf1, hf2, hf3]; done) | (simp only [decide_eq_false hf1, decide_eq_false hf2, decide_eq_false hf3]; rfl)), trivial⟩ (fun _ hw => hw.sp (fun a => by simp -failIfUnchanged <;> omega))
  rintro _ -
  refine pn_cond rfl (fun hc4 => ?_) (fun hc4 => ?_)
  · simp only [Bool.or_eq_true, decide_eq_true_eq] at hc4
    refine pn_seq ?_
    refine pn_plainG [] [] rfl (fun a => by simp -failIfUnchanged <;> omega) ?_
    refine TE_q rfl rfl (RD.assign rfl) rfl ?_
    refine TE_nil0 ?_
    refine pn_ret ?_
    exact pn_doneS [] rfl rfl ⟨(congrArg (Value.int .i64) (great_1 (by omega))), rfl⟩ (fun _ => Nat.zero_le _) (fun _ he => nomatch he)
  · simp only [Bool.or_eq_false_iff, decide_eq_false_iff_not] at hc4
    refine pn_skip ?_
    refine pn_seq ?_
    refine pn_seq ?_
    refine pn_plain [] rfl ?_
    refine TE_q rfl rfl (RD.assign rfl) rfl ?_
    refine TE_nil0 ?_
    refine pn_block ?_
    refine pn_loopS (σ := Nat) (fun q => [(1, .pointer (some ⟨b1, 0, none⟩)), (3, .int .i64 (q : Int))]) (fun q => ((b1, .cells (objV x xd xe xp).cells 30 (0, 0)) :: HX)) (fun q => (q ≤ x.ents.length) ∧ (∀ j, j < q → (gt x.ents j).name.size ≤ 100)) (fun q => x.ents.length - q) 0 ⟨(by omega), (fun j hj => absurd hj (Nat.not_lt_zero _))⟩ ⟨rfl, rfl, trivial⟩ (fun a => by simp -failIfUnchanged <;> omega) ?_
    rintro i ⟨hi, hall⟩
    refine pn_seq ?_
    refine pn_seq ?_
    refine pn_plain [3] rfl ?_
    refine TE_q rfl rfl (RD.move rfl) rfl ?_
    refine TE_q rfl rfl (RD.fieldAddr (o := 2) Try.runUnderlying30 rfl rfl Try.sizeOf23 rfl) rfl ?_
    refine TE_l rfl rfl trivial rfl (RD.load (i := 0) (v := xe) Try.isAgg23 rfl rfl rfl) rfl ?_
    refine TE_q rfl rfl (RD.lenX Try.runUnderlying23 rfl hbxe) rfl ?_
    refine TE_q rfl rfl (RD.lss rfl rfl) rfl ?_
    refine TE_nil0 ?_
    refine pn_condD rfl (fun hc5 => ?_) (fun hc5 => ?_)
    · refine pn_skip ?_
      refine pn_seq ?_
      refine pn_block ?_
      refine pn_seq ?_
      refine pn_plain [6] rfl ?_
      refine TE_q rfl rfl (RD.fieldAddr (o := 2) Try.runUnderlying30 rfl rfl Try.sizeOf23 rfl) rfl ?_
      refine TE_l rfl rfl trivial rfl (RD.load (i := 0) (v := xe) Try.isAgg23 rfl rfl rfl) rfl ?_
      refine TE_q rfl rfl (RD.move rfl) rfl ?_
      refine TE_q rfl rfl (RD.idxR (i := i) (o := (i * 34 + 0)) Try.runUnderlying23 Try.sizeOf38 rfl hbxe rfl rfl (by omega) (by rfl)) rfl ?_
      refine TE_q rfl rfl (RD.fldR (i := i) (o' := (i * 34 + 0)) Try.runUnderlying38 rfl (by rfl) Try.sizeOf9 rfl hbxe (by omega)) rfl ?_
      refine TE_l rfl rfl trivial rfl (RD.ldR (i := i) (j := 0) (u := .string ((gt x.ents i).name)) Try.isAgg9 rfl hbxe (gt_some (by omega)) (by rfl) rfl (fun _ hw => hw.sp (fun a => by simp -failIfUnchanged <;> omega))) rfl ?_
      refine TE_q rfl rfl (RD.len_string Try.runUnderlying9 rfl) rfl ?_
      refine TE_q rfl rfl (RD.gtr rfl rfl) rfl ?_
      refine TE_nil0 ?_
      refine pn_condD rfl (fun hc6 => ?_) (fun hc6 => ?_)
      · refine pn_seq ?_
        refine pn_plainG [] [] rfl (fun a => by simp -failIfUnchanged <;> omega) ?_
        refine TE_q rfl rfl (RD.assign rfl) rfl ?_
        refine TE_nil0 ?_
        refine pn_ret ?_
        exact pn_doneS [] rfl rfl ⟨(congrArg (Value.int .i64) (great_2 (i := i) (by omega) (by omega))), rfl⟩ (fun _ => Nat.zero_le _) (fun _ he => nomatch he)
      · refine pn_skip ?_
        refine pn_plain [] rfl ?_
        refine TE_q rfl rfl (RD.move rfl) rfl ?_
        refine TE_q rfl rfl (RD.addI rfl rfl (by omega) (by omega)) rfl ?_
        refine TE_q rfl rfl (RD.assign rfl) rfl ?_
        refine TE_nil0 ?_
        exact pn_againS (i + 1) ⟨(by omega), (fun j hj => by rcases Nat.lt_or_ge j i with h | h; exact hall j h; obtain rfl : j = i := (by omega); omega)⟩ (by omega) ⟨rfl, rfl, trivial⟩ (fun a => by simp -failIfUnchanged <;> omega)
    · refine pn_exit ?_
      refine pn_seq ?_
      refine pn_plainG [] [] rfl (fun a => by simp -failIfUnchanged <;> omega) ?_
      refine TE_q rfl rfl (RD.assign rfl) rfl ?_
      refine TE_nil0 ?_
      refine pn_ret ?_
      exact pn_doneS [] rfl rfl ⟨(congrArg (Value.int .i64) (great_3 (by omega) (by omega) (by omega) (by omega) fun j hj => hall j (by omega))), rfl⟩ (fun _ => Nat.zero_le _) (fun _ he => nomatch he)

theorem c_r7Zero (t : (Nat → Int)) (w : World) (hH : Hp [] w) : Calls Try.prog 27 #[idV t] w (Ret w [] fun v H1 => v = .bool (idZ t) ∧ H1 = []) := by
  refine fn_enter (args := [_]) Try.func27 rfl Try.ntmps27 rfl hH ?_
  refine pn_seq ?_
  refine pn_plain [] rfl ?_
  refine TE_boxC (idV t).cells rfl rfl rfl trivial rfl fun b1 hb1 => ?_
  refine TE_q rfl rfl (RD.assign rfl) rfl ?_
  refine TE_nil0 ?_
  refine pn_seq ?_
  refine pn_plain [] rfl ?_
  refine TE_l rfl rfl trivial rfl (RD.loadA (i := 0) Try.isAgg25 Try.sizeOf25 rfl rfl (Nat.le_of_ble_eq_true rfl) (id_all _)) rfl ?_
  refine TE_q rfl rfl (RD.build (v := idV (fun _ => 0)) rfl (bd_id0)) rfl ?_
  refine TE_q rfl rfl (RD.eql_agg Try.eqGuardType25 (eq_id t (fun _ => 0)) rfl rfl) rfl ?_
  refine TE_q rfl rfl (RD.assign rfl) rfl ?_
  refine TE_nil0 ?_
  refine pn_ret ?_
  exact pn_doneS [] rfl rfl ⟨rfl, rfl⟩ (fun _ => Nat.zero_le _) (fun _ he => nomatch he)

theorem name_F1 {s : ByteArray} (h : (s.size : Int) < 1 ∨ 64 < (s.size : Int)) : false = nameB s := by
  rcases h with h | h
  · rw [nameB, decide_eq_false (by omega)]; rfl
  · rw [nameB, decide_eq_false (p := s.size ≤ 64) (by omega), Bool.and_false]; rfl
theorem name_F2 {s : ByteArray} {i : Nat} (hi : i < s.size) (h : ((gt s.data.toList i).toNat : Int) = 47 ∨ ((gt s.data.toList i).toNat : Int) = 0) : false = nameB s := by
  have : hasSep s = true := List.any_eq_true.2 ⟨_, gt_mem (lt_data hi), sepB_iff.2 h⟩
  rw [nameB, this]; simp
theorem name_T {s : ByteArray} (h1 : 1 ≤ (s.size : Int)) (h2 : (s.size : Int) ≤ 64) (h : ∀ j, j < s.size → sepB (gt s.data.toList j) = false) : true = nameB s := by
  have : hasSep s = false := by
    refine List.any_eq_false.2 fun c hc => ?_
    obtain ⟨j, hj, rfl⟩ := List.getElem_of_mem hc
    have e := gt_some hj
    rw [List.getElem?_eq_getElem hj] at e
    rw [Option.some.inj e, h j (by simpa using hj)]; simp
  rw [nameB, this, decide_eq_true (by omega), decide_eq_true (by omega)]; rfl
theorem sepB_ne {c : UInt8} (h1 : ¬ (c.toNat : Int) = 47) (h2 : ¬ (c.toNat : Int) = 0) : sepB c = false := by
  cases h : sepB c with
  | false => rfl
  | true => rcases sepB_iff.1 h with h | h <;> contradiction

theorem c_r7name (s : ByteArray) (w : World) (hs : s.size ≤ 1000000) (hH : Hp [] w) : Calls Try.prog 42 #[.string s] w (Ret w [] fun v H1 => v = .bool (nameB s) ∧ H1 = []) := by
  refine fn_enter (args := [_]) Try.func42 rfl Try.ntmps42 rfl hH ?_
  refine pn_seq ?_
  refine pn_plain [] rfl ?_
  refine TE_q rfl rfl (RD.assign rfl) rfl ?_
  refine TE_nil0 ?_
  refine pn_seq ?_
  refine pn_seq ?_
  refine pn_plain [1, 5] rfl ?_
  refine TE_q rfl rfl (RD.move rfl) rfl ?_
  refine TE_q rfl rfl (RD.len_string Try.runUnderlying9 rfl) rfl ?_
  refine TE_q rfl rfl (RD.lss rfl rfl) rfl ?_
  refine TE_q rfl rfl (RD.move rfl) rfl ?_
  refine TE_join (σ := Unit) (fun _ => [(0, .string s), (11, .bool ((decide ((s.size : Int) < 1)) || (decide (64 < (s.size : Int)))))]) (fun _ => []) (fun _ => True) ?_ ?_
  · refine TE_dec (fun hf1 => ?_) (fun hf1 => ?_)
    · refine TE_s rfl rfl rfl rfl rfl ?_
      refine TE_s rfl rfl rfl rfl rfl ?_
      refine TE_s rfl rfl rfl rfl rfl ?_
      refine TE_q rfl rfl (RD.pickT rfl rfl) rfl ?_
      refine TE_nil0 ?_
      exact pn_give () trivial ⟨rfl, congrArg (fun b => some (Value.bool b)) (by first | (simp [hf1]; done) | (simp only [decide_eq_true hf1]; rfl)), trivial⟩ (fun _ hw => hw.sp (fun a => by simp -failIfUnchanged <;> omega))
    · refine TE_gq rfl rfl rfl rfl (RD.move rfl) rfl ?_
      refine TE_gq rfl rfl rfl rfl (RD.len_string Try.runUnderlying9 rfl) rfl ?_
      refine TE_gq rfl rfl rfl rfl (RD.gtr rfl rfl) rfl ?_
      refine TE_q rfl rfl (RD.pickF rfl rfl) rfl ?_
      refine TE_nil0 ?_
      exact pn_give () trivial ⟨rfl, congrArg (fun b => some (Value.bool b)) (by first | (simp [hf1]; done) | (simp only [decide_eq_false hf1]; rfl)), trivial⟩ (fun _ hw => hw.sp (fun a => by simp -failIfUnchanged <;> omega))
  rintro _ -
  refine pn_cond rfl (fun hc2 => ?_) (fun hc2 => ?_)
  · simp only [Bool.or_eq_true, decide_eq_true_eq] at hc2
    refine pn_seq ?_
    refine pn_plain [] rfl ?_
    refine TE_q rfl rfl (RD.assign rfl) rfl ?_
    refine TE_nil0 ?_
    refine pn_ret ?_
    exact pn_doneS [] rfl rfl ⟨(congrArg Value.bool (name_F1 (by omega))), rfl⟩ (fun _ => Nat.zero_le _) (fun _ he => nomatch he)
  · simp only [Bool.or_eq_false_iff, decide_eq_false_iff_not] at hc2
    refine pn_skip ?_
    refine pn_seq ?_
    refine pn_seq ?_
    refine pn_plain [] rfl ?_
    refine TE_q rfl rfl (RD.assign rfl) rfl ?_
    refine TE_nil0 ?_
    refine pn_block ?_
    refine pn_loopS (σ := Nat) (fun q => [(0, .string s), (3, .int .i64 (q : Int))]) (fun q => []) (fun q => (q ≤ s.size) ∧ (∀ j, j < q → sepB (gt s.data.toList j) = false)) (fun q => s.size - q) 0 ⟨(by omega), (fun j hj => absurd hj (Nat.not_lt_zero _))⟩ ⟨rfl, rfl, trivial⟩ (fun a => by simp -failIfUnchanged <;> omega) ?_
    rintro i ⟨hi, hall⟩
    refine pn_seq ?_
    refine pn_seq ?_
    refine pn_plain [2] rfl ?_
    refine TE_q rfl rfl (RD.move rfl) rfl ?_
    refine TE_q rfl rfl (RD.move rfl) rfl ?_
    refine TE_q rfl rfl (RD.len_string Try.runUnderlying9 rfl) rfl ?_
    refine TE_q rfl rfl (RD.lss rfl rfl) rfl ?_
    refine TE_nil0 ?_
    refine pn_condD rfl (fun hc3 => ?_) (fun hc3 => ?_)
    · refine pn_skip ?_
      refine pn_seq ?_
      refine pn_block ?_
      refine pn_seq ?_
      refine pn_plain [] rfl ?_
      refine TE_q rfl rfl (RD.move rfl) rfl ?_
      refine TE_q rfl rfl (RD.move rfl) rfl ?_
      refine TE_q rfl rfl (RD.indexStr (i := i) Try.underlying9 rfl rfl rfl (gt_some (lt_data (by omega)))) rfl ?_
      refine TE_q rfl rfl (RD.eql rfl rfl) rfl ?_
      refine TE_q rfl rfl (RD.move rfl) rfl ?_
      refine TE_join (σ := Unit) (fun _ => [(0, .string s), (3, .int .i64 (i : Int)), (27, .bool ((decide (((gt s.data.toList i).toNat : Int) = 47)) || (decide (((gt s.data.toList i).toNat : Int) = 0))))]) (fun _ => []) (fun _ => True) ?_ ?_
      · refine TE_dec (fun hf4 => ?_) (fun hf4 => ?_)
        · refine TE_s rfl rfl rfl rfl rfl ?_
          refine TE_s rfl rfl rfl rfl rfl ?_
          refine TE_s rfl rfl rfl rfl rfl ?_
          refine TE_s rfl rfl rfl rfl rfl ?_
          refine TE_q rfl rfl (RD.pickT rfl rfl) rfl ?_
          refine TE_nil0 ?_
          exact pn_give () trivial ⟨rfl, rfl, congrArg (fun b => some (Value.bool b)) (by first | (simp [hf4]; done) | (simp only [decide_eq_true hf4]; rfl)), trivial⟩ (fun _ hw => hw.sp (fun a => by simp -failIfUnchanged <;> omega))
        · refine TE_gq rfl rfl rfl rfl (RD.move rfl) rfl ?_
          refine TE_gq rfl rfl rfl rfl (RD.move rfl) rfl ?_
          refine TE_gq rfl rfl rfl rfl (RD.indexStr (i := i) Try.underlying9 rfl rfl rfl (gt_some (lt_data (by omega)))) rfl ?_
          refine TE_gq rfl rfl rfl rfl (RD.eql rfl rfl) rfl ?_
          refine TE_q rfl rfl (RD.pickF rfl rfl) rfl ?_
          refine TE_nil0 ?_
          exact pn_give () trivial ⟨rfl, rfl, congrArg (fun b => some (Value.bool b)) (by first | (simp [hf4]; done) | (simp only [decide_eq_false hf4]; rfl)), trivial⟩ (fun _ hw => hw.sp (fun a => by simp -failIfUnchanged <;> omega))
      rintro _ -
      refine pn_cond rfl (fun hc5 => ?_) (fun hc5 => ?_)
      · simp only [Bool.or_eq_true, decide_eq_true_eq] at hc5
        refine pn_seq ?_
        refine pn_plain [] rfl ?_
        refine TE_q rfl rfl (RD.assign rfl) rfl ?_
        refine TE_nil0 ?_
        refine pn_ret ?_
        exact pn_doneS [] rfl rfl ⟨(congrArg Value.bool (name_F2 (i := i) (by omega) (by omega))), rfl⟩ (fun _ => Nat.zero_le _) (fun _ he => nomatch he)
      · simp only [Bool.or_eq_false_iff, decide_eq_false_iff_not] at hc5
        refine pn_skip ?_
        refine pn_plain [] rfl ?_
        refine TE_q rfl rfl (RD.move rfl) rfl ?_
        refine TE_q rfl rfl (RD.addI rfl rfl (by omega) (by omega)) rfl ?_
        refine TE_q rfl rfl (RD.assign rfl) rfl ?_
        refine TE_nil0 ?_
        exact pn_againS (i + 1) ⟨(by omega), (fun j hj => (by rcases Nat.lt_or_ge j i with h | h; exact hall j h; obtain rfl : j = i := (by omega); exact sepB_ne hc5.1 hc5.2))⟩ (by omega) ⟨rfl, rfl, trivial⟩ (fun a => by simp -failIfUnchanged <;> omega)
    · refine pn_exit ?_
      refine pn_seq ?_
      refine pn_plain [] rfl ?_
      refine TE_q rfl rfl (RD.assign rfl) rfl ?_
      refine TE_nil0 ?_
      refine pn_ret ?_
      exact pn_doneS [] rfl rfl ⟨(congrArg Value.bool (name_T (by omega) (by omega) fun j hj => hall j (by omega))), rfl⟩ (fun _ => Nat.zero_le _) (fun _ he => nomatch he)

theorem ent_F {l : List Ent} {i : Nat} (h : nameB (gt l i).name = false ∨ (gt l i).k < 1 ∨ 2 < (gt l i).k ∨ 0 < (i : Int) ∧ slt (gt l ((i : Int) - 1).toNat).name (gt l i).name = false) : entAt l i = false := by
  rw [show ((i : Int) - 1).toNat = i - 1 by omega] at h
  rcases h with h | h | h | ⟨h1, h2⟩
  · simp [entAt, h]
  · rw [entAt, decide_eq_false (p := (gt l i).k = 1) (by omega), decide_eq_false (p := (gt l i).k = 2) (by omega)]; simp
  · rw [entAt, decide_eq_false (p := (gt l i).k = 1) (by omega), decide_eq_false (p := (gt l i).k = 2) (by omega)]; simp
  · rw [entAt, h2, decide_eq_false (p := i = 0) (by omega)]; simp
theorem ent_T {l : List Ent} {i : Nat} (h : nameB (gt l i).name = true ∧ ¬ (gt l i).k < 1 ∧ ¬ 2 < (gt l i).k ∧ (¬ 0 < (i : Int) ∨ slt (gt l ((i : Int) - 1).toNat).name (gt l i).name = true)) : entAt l i = true := by
  rw [show ((i : Int) - 1).toNat = i - 1 by omega] at h
  obtain ⟨h1, h2, h3, h4⟩ := h
  have h5 : (decide ((gt l i).k = 1) || decide ((gt l i).k = 2)) = true := by
    rw [Bool.or_eq_true, decide_eq_true_eq, decide_eq_true_eq]; omega
  rw [entAt, h1, h5]
  rcases h4 with h4 | h4
  · rw [decide_eq_true (by omega)]; rfl
  · rw [h4, Bool.or_true]; rfl

theorem c_r7entries (lv : Value) (l : List Ent) (HX : Mem) (w : World) (hbl : Rdx 34 (entC) HX lv l) (hll : l.length ≤ 1000000) (hol : ∀ x ∈ l, EntOk x) (hH : Hp HX w) : Calls Try.prog 28 #[lv] w (Ret w [] fun v H1 => v = .bool (treeB l) ∧ H1 = []) := by
  have hent : ∀ i, i < l.length → (gt l i).name.size ≤ 1000000 := fun i hi => Nat.le_trans (hol _ (gt_mem hi)).n (by decide)
  refine fn_enter (args := [_]) Try.func28 rfl Try.ntmps28 rfl hH ?_
  refine pn_seq ?_
  refine pn_plain [] rfl ?_
  refine TE_q rfl rfl (RD.assign rfl) rfl ?_
  refine TE_nil0 ?_
  refine pn_seq ?_
  refine pn_seq ?_
  refine pn_plain [1] rfl ?_
  refine TE_q rfl rfl (RD.move rfl) rfl ?_
  refine TE_q rfl rfl (RD.lenX Try.runUnderlying23 rfl hbl) rfl ?_
  refine TE_q rfl rfl (RD.gtr rfl rfl) rfl ?_
  refine TE_nil0 ?_
  refine pn_condD rfl (fun hc1 => ?_) (fun hc1 => ?_)
  · refine pn_seq ?_
    refine pn_plainG [] [] rfl (fun a => by simp -failIfUnchanged <;> omega) ?_
    refine TE_q rfl rfl (RD.assign rfl) rfl ?_
    refine TE_nil0 ?_
    refine pn_ret ?_
    exact pn_doneS [] rfl rfl ⟨(congrArg Value.bool (tree_F1 (by omega)).symm), rfl⟩ (fun _ => Nat.zero_le _) (fun _ he => nomatch he)
  · refine pn_skip ?_
    refine pn_seq ?_
    refine pn_seq ?_
    refine pn_plain [] rfl ?_
    refine TE_q rfl rfl (RD.assign rfl) rfl ?_
    refine TE_nil0 ?_
    refine pn_block ?_
    refine pn_loopS (σ := Nat) (fun q => [(0, lv), (3, .int .i64 (q : Int))]) (fun q => HX) (fun q => (q ≤ l.length) ∧ (∀ j, j < q → entAt l j = true)) (fun q => l.length - q) 0 ⟨(by omega), (fun j hj => absurd hj (Nat.not_lt_zero _))⟩ ⟨rfl, rfl, trivial⟩ (fun a => by simp -failIfUnchanged <;> omega) ?_
    rintro i ⟨hi, hall⟩
    refine pn_seq ?_
    refine pn_seq ?_
    refine pn_plain [2] rfl ?_
    refine TE_q rfl rfl (RD.move rfl) rfl ?_
    refine TE_q rfl rfl (RD.move rfl) rfl ?_
    refine TE_q rfl rfl (RD.lenX Try.runUnderlying23 rfl hbl) rfl ?_
    refine TE_q rfl rfl (RD.lss rfl rfl) rfl ?_
    refine TE_nil0 ?_
    refine pn_condD rfl (fun hc2 => ?_) (fun hc2 => ?_)
    · refine pn_skip ?_
      refine pn_seq ?_
      refine pn_block ?_
      refine pn_seq ?_
      refine pn_plain [] rfl ?_
      refine TE_q rfl rfl (RD.move rfl) rfl ?_
      refine TE_q rfl rfl (RD.move rfl) rfl ?_
      refine TE_q rfl rfl (RD.idxR (i := i) (o := (i * 34 + 0)) Try.runUnderlying23 Try.sizeOf38 rfl hbl rfl rfl (by omega) (by rfl)) rfl ?_
      refine TE_q rfl rfl (RD.fldR (i := i) (o' := (i * 34 + 0)) Try.runUnderlying38 rfl (by rfl) Try.sizeOf9 rfl hbl (by omega)) rfl ?_
      refine TE_l rfl rfl trivial rfl (RD.ldR (i := i) (j := 0) (u := .string ((gt l i).name)) Try.isAgg9 rfl hbl (gt_some (by omega)) (by rfl) rfl (fun _ hw => hw.sp (fun a => by simp -failIfUnchanged <;> omega))) rfl ?_
      refine TE_callG _ [] rfl rfl trivial Try.call42 rfl rfl rfl (fun w hw => c_r7name ((gt l i).name) w (hent _ (by omega)) (hw.sp (fun a => by simp -failIfUnchanged <;> omega))) (fun a => by simp -failIfUnchanged <;> omega) ?_
      rintro v3 H4 ⟨rfl, rfl⟩ -
      refine TE_q rfl rfl (RD.assign rfl) rfl ?_
      refine TE_nil0 ?_
      refine pn_seq ?_
      refine pn_drawG [7, 15, 27, 32] [] HX rfl rfl (by kernel_rfl) (fun a => by simp -failIfUnchanged <;> omega) ?_
      refine TE_q rfl rfl (RD.move rfl) rfl ?_
      refine TE_q rfl rfl (RD.not rfl) rfl ?_
      refine TE_q rfl rfl (RD.move rfl) rfl ?_
      refine TE_join (σ := Unit) (fun _ => [(0, lv), (3, .int .i64 (i : Int)), (55, .bool ((!(nameB ((gt l i).name))) || ((decide (((gt l i).k) < 1)) || ((decide (2 < ((gt l i).k))) || ((decide (0 < (i : Int))) && (!(slt ((gt l ((((i : Int) - 1)).toNat)).name) ((gt l i).name))))))))]) (fun _ => HX) (fun _ => True) ?_ ?_
      · refine TE_bool (fun hf5 => ?_) (fun hf5 => ?_)
        · refine TE_s rfl rfl rfl rfl rfl ?_
          refine TE_s rfl rfl rfl rfl rfl ?_
          refine TE_s rfl rfl rfl rfl rfl ?_
          refine TE_s rfl rfl rfl rfl rfl ?_
          refine TE_s rfl rfl rfl rfl rfl ?_
          refine TE_s rfl rfl rfl rfl rfl ?_
          refine TE_q rfl rfl (RD.pickT rfl rfl) rfl ?_
          refine TE_q rfl rfl (RD.move rfl) rfl ?_
          refine TE_s rfl rfl rfl rfl rfl ?_
          refine TE_s rfl rfl rfl rfl rfl ?_
          refine TE_s rfl rfl rfl rfl rfl ?_
          refine TE_s rfl rfl rfl rfl rfl ?_
          refine TE_s rfl rfl rfl rfl rfl ?_
          refine TE_s rfl rfl rfl rfl rfl ?_
          refine TE_q rfl rfl (RD.pickT rfl rfl) rfl ?_
          refine TE_q rfl rfl (RD.move rfl) rfl ?_
          refine TE_s rfl rfl rfl rfl rfl ?_
          refine TE_s rfl rfl rfl rfl rfl ?_
          refine TE_s rfl rfl rfl rfl rfl ?_
          refine TE_su rfl rfl rfl rfl ?_
          refine TE_su rfl rfl rfl rfl ?_
          refine TE_su rfl rfl rfl rfl ?_
          refine TE_su rfl rfl rfl rfl ?_
          refine TE_su rfl rfl rfl rfl ?_
          refine TE_su rfl rfl rfl rfl ?_
          refine TE_su rfl rfl rfl rfl ?_
          refine TE_su rfl rfl rfl rfl ?_
          refine TE_su rfl rfl rfl rfl ?_
          refine TE_su rfl rfl rfl rfl ?_
          refine TE_su rfl rfl rfl rfl ?_
          refine TE_su rfl rfl rfl rfl ?_
          refine TE_s rfl rfl rfl rfl rfl ?_
          refine TE_q rfl rfl (RD.pickT rfl rfl) rfl ?_
          refine TE_nil ?_
          exact pn_give () trivial ⟨rfl, rfl, congrArg (fun b => some (Value.bool b)) (by first | (simp [hf5]; done) | (simp only [hf5]; rfl)), trivial⟩ (fun _ hw => hw.sp (fun a => by simp -failIfUnchanged <;> omega))
        · refine TE_gq rfl rfl rfl rfl (RD.move rfl) rfl ?_
          refine TE_gq rfl rfl rfl rfl (RD.move rfl) rfl ?_
          refine TE_gq rfl rfl rfl rfl (RD.idxR (i := i) (o := (i * 34 + 0)) Try.runUnderlying23 Try.sizeOf38 rfl hbl rfl rfl (by omega) (by rfl)) rfl ?_
          refine TE_gq rfl rfl rfl rfl (RD.fldR (i := i) (o' := (i * 34 + 1)) Try.runUnderlying38 rfl (by rfl) Try.sizeOf3 rfl hbl (by omega)) rfl ?_
          refine TE_gq rfl rfl rfl rfl (RD.ldR (i := i) (j := 1) (u := .int .i64 ((gt l i).k)) Try.isAgg3 rfl hbl (gt_some (by omega)) (by rfl) rfl (fun _ hw => hw.sp (fun a => by simp -failIfUnchanged <;> omega))) rfl ?_
          refine TE_gq rfl rfl rfl rfl (RD.lss rfl rfl) rfl ?_
          refine TE_q rfl rfl (RD.pickF rfl rfl) rfl ?_
          refine TE_q rfl rfl (RD.move rfl) rfl ?_
          refine TE_dec (fun hf6 => ?_) (fun hf6 => ?_)
          · refine TE_s rfl rfl rfl rfl rfl ?_
            refine TE_s rfl rfl rfl rfl rfl ?_
            refine TE_s rfl rfl rfl rfl rfl ?_
            refine TE_s rfl rfl rfl rfl rfl ?_
            refine TE_s rfl rfl rfl rfl rfl ?_
            refine TE_s rfl rfl rfl rfl rfl ?_
            refine TE_q rfl rfl (RD.pickT rfl rfl) rfl ?_
            refine TE_q rfl rfl (RD.move rfl) rfl ?_
            refine TE_s rfl rfl rfl rfl rfl ?_
            refine TE_s rfl rfl rfl rfl rfl ?_
            refine TE_s rfl rfl rfl rfl rfl ?_
            refine TE_su rfl rfl rfl rfl ?_
            refine TE_su rfl rfl rfl rfl ?_
            refine TE_su rfl rfl rfl rfl ?_
            refine TE_su rfl rfl rfl rfl ?_
            refine TE_su rfl rfl rfl rfl ?_
            refine TE_su rfl rfl rfl rfl ?_
            refine TE_su rfl rfl rfl rfl ?_
            refine TE_su rfl rfl rfl rfl ?_
            refine TE_su rfl rfl rfl rfl ?_
            refine TE_su rfl rfl rfl rfl ?_
            refine TE_su rfl rfl rfl rfl ?_
            refine TE_su rfl rfl rfl rfl ?_
            refine TE_s rfl rfl rfl rfl rfl ?_
            refine TE_q rfl rfl (RD.pickT rfl rfl) rfl ?_
            refine TE_nil ?_
            exact pn_give () trivial ⟨rfl, rfl, congrArg (fun b => some (Value.bool b)) (by first | (simp [hf5, hf6]; done) | (simp only [hf5, decide_eq_true hf6]; rfl)), trivial⟩ (fun _ hw => hw.sp (fun a => by simp -failIfUnchanged <;> omega))
          · refine TE_gq rfl rfl rfl rfl (RD.move rfl) rfl ?_
            refine TE_gq rfl rfl rfl rfl (RD.move rfl) rfl ?_
            refine TE_gq rfl rfl rfl rfl (RD.idxR (i := i) (o := (i * 34 + 0)) Try.runUnderlying23 Try.sizeOf38 rfl hbl rfl rfl (by omega) (by rfl)) rfl ?_
            refine TE_gq rfl rfl rfl rfl (RD.fldR (i := i) (o' := (i * 34 + 1)) Try.runUnderlying38 rfl (by rfl) Try.sizeOf3 rfl hbl (by omega)) rfl ?_
            refine TE_gq rfl rfl rfl rfl (RD.ldR (i := i) (j := 1) (u := .int .i64 ((gt l i).k)) Try.isAgg3 rfl hbl (gt_some (by omega)) (by rfl) rfl (fun _ hw => hw.sp (fun a => by simp -failIfUnchanged <;> omega))) rfl ?_
            refine TE_gq rfl rfl rfl rfl (RD.gtr rfl rfl) rfl ?_
            refine TE_q rfl rfl (RD.pickF rfl rfl) rfl ?_
            refine TE_q rfl rfl (RD.move rfl) rfl ?_
            refine TE_dec (fun hf7 => ?_) (fun hf7 => ?_)
            · refine TE_s rfl rfl rfl rfl rfl ?_
              refine TE_s rfl rfl rfl rfl rfl ?_
              refine TE_s rfl rfl rfl rfl rfl ?_
              refine TE_su rfl rfl rfl rfl ?_
              refine TE_su rfl rfl rfl rfl ?_
              refine TE_su rfl rfl rfl rfl ?_
              refine TE_su rfl rfl rfl rfl ?_
              refine TE_su rfl rfl rfl rfl ?_
              refine TE_su rfl rfl rfl rfl ?_
              refine TE_su rfl rfl rfl rfl ?_
              refine TE_su rfl rfl rfl rfl ?_
              refine TE_su rfl rfl rfl rfl ?_
              refine TE_su rfl rfl rfl rfl ?_
              refine TE_su rfl rfl rfl rfl ?_
              refine TE_su rfl rfl rfl rfl ?_
              refine TE_s rfl rfl rfl rfl rfl ?_
              refine TE_q rfl rfl (RD.pickT rfl rfl) rfl ?_
              refine TE_nil ?_
              exact pn_give () trivial ⟨rfl, rfl, congrArg (fun b => some (Value.bool b)) (by first | (simp [hf5, hf6, hf7]; done) | (simp only [hf5, decide_eq_false hf6, decide_eq_true hf7]; rfl)), trivial⟩ (fun _ hw => hw.sp (fun a => by simp -failIfUnchanged <;> omega))
            · refine TE_gq rfl rfl rfl rfl (RD.move rfl) rfl ?_
              refine TE_gq rfl rfl rfl rfl (RD.gtr rfl rfl) rfl ?_
              refine TE_gq rfl rfl rfl rfl (RD.move rfl) rfl ?_
              refine TE_dec (fun hf8 => ?_) (fun hf8 => ?_)
              · refine TE_gq rfl rfl rfl rfl (RD.move rfl) rfl ?_
                refine TE_gq rfl rfl rfl rfl (RD.move rfl) rfl ?_
                refine TE_gq rfl rfl rfl rfl (RD.subI rfl rfl (by omega) (by omega)) rfl ?_
                refine TE_gq rfl rfl rfl rfl (RD.idxR (i := (((i : Int) - 1)).toNat) (o := (((((i : Int) - 1)).toNat) * 34 + 0)) Try.runUnderlying23 Try.sizeOf38 rfl hbl rfl (by omega) (by omega) (by rfl)) rfl ?_
                refine TE_gq rfl rfl rfl rfl (RD.fldR (i := ((((i : Int) - 1)).toNat)) (o' := (((((i : Int) - 1)).toNat) * 34 + 0)) Try.runUnderlying38 rfl (by rfl) Try.sizeOf9 rfl hbl (by omega)) rfl ?_
                refine TE_gq rfl rfl rfl rfl (RD.ldR (i := ((((i : Int) - 1)).toNat)) (j := 0) (u := .string ((gt l ((((i : Int) - 1)).toNat)).name)) Try.isAgg9 rfl hbl (gt_some (by omega)) (by rfl) rfl (fun _ hw => hw.sp (fun a => by simp -failIfUnchanged <;> omega))) rfl ?_
                refine TE_gq rfl rfl rfl rfl (RD.move rfl) rfl ?_
                refine TE_gq rfl rfl rfl rfl (RD.move rfl) rfl ?_
                refine TE_gq rfl rfl rfl rfl (RD.idxR (i := i) (o := (i * 34 + 0)) Try.runUnderlying23 Try.sizeOf38 rfl hbl rfl rfl (by omega) (by rfl)) rfl ?_
                refine TE_gq rfl rfl rfl rfl (RD.fldR (i := i) (o' := (i * 34 + 0)) Try.runUnderlying38 rfl (by rfl) Try.sizeOf9 rfl hbl (by omega)) rfl ?_
                refine TE_gq rfl rfl rfl rfl (RD.ldR (i := i) (j := 0) (u := .string ((gt l i).name)) Try.isAgg9 rfl hbl (gt_some (by omega)) (by rfl) rfl (fun _ hw => hw.sp (fun a => by simp -failIfUnchanged <;> omega))) rfl ?_
                refine TE_gq rfl rfl rfl rfl (RD.geq_string rfl rfl) rfl ?_
                refine TE_gq rfl rfl rfl rfl (RD.pickT rfl rfl) rfl ?_
                refine TE_q rfl rfl (RD.pickF rfl rfl) rfl ?_
                refine TE_nil ?_
                exact pn_give () trivial ⟨rfl, rfl, congrArg (fun b => some (Value.bool b)) (by first | (simp [hf5, hf6, hf7, hf8]; done) | (simp only [hf5, decide_eq_false hf6, decide_eq_false hf7, decide_eq_true hf8]; rfl)), trivial⟩ (fun _ hw => hw.sp (fun a => by simp -failIfUnchanged <;> omega))
              · refine TE_s rfl rfl rfl rfl rfl ?_
                refine TE_s rfl rfl rfl rfl rfl ?_
                refine TE_s rfl rfl rfl rfl rfl ?_
                refine TE_s rfl rfl rfl rfl rfl ?_
                refine TE_s rfl rfl rfl rfl rfl ?_
                refine TE_s rfl rfl rfl rfl rfl ?_
                refine TE_s rfl rfl rfl rfl rfl ?_
                refine TE_s rfl rfl rfl rfl rfl ?_
                refine TE_s rfl rfl rfl rfl rfl ?_
                refine TE_s rfl rfl rfl rfl rfl ?_
                refine TE_s rfl rfl rfl rfl rfl ?_
                refine TE_s rfl rfl rfl rfl rfl ?_
                refine TE_gq rfl rfl rfl rfl (RD.pickF rfl rfl) rfl ?_
                refine TE_q rfl rfl (RD.pickF rfl rfl) rfl ?_
                refine TE_nil ?_
                exact pn_give () trivial ⟨rfl, rfl, congrArg (fun b => some (Value.bool b)) (by first | (simp [hf5, hf6, hf7, hf8]; done) | (simp only [hf5, decide_eq_false hf6, decide_eq_false hf7, decide_eq_false hf8]; rfl)), trivial⟩ (fun _ hw => hw.sp (fun a => by simp -failIfUnchanged <;> omega))
      rintro _ -
      refine pn_cond rfl (fun hc9 => ?_) (fun hc9 => ?_)
      · simp only [Bool.and_eq_true, Bool.not_eq_true', Bool.or_eq_true, decide_eq_true_eq] at hc9
        refine pn_seq ?_
        refine pn_plainG [] [] rfl (fun a => by simp -failIfUnchanged <;> omega) ?_
        refine TE_q rfl rfl (RD.assign rfl) rfl ?_
        refine TE_nil0 ?_
        refine pn_ret ?_
        exact pn_doneS [] rfl rfl ⟨(congrArg Value.bool (tree_F2 (i := i) (by omega) (ent_F hc9)).symm), rfl⟩ (fun _ => Nat.zero_le _) (fun _ he => nomatch he)
      · simp only [Bool.and_eq_false_iff, Bool.not_eq_false', Bool.or_eq_false_iff, decide_eq_false_iff_not] at hc9
        refine pn_skip ?_
        refine pn_plain [] rfl ?_
        refine TE_q rfl rfl (RD.move rfl) rfl ?_
        refine TE_q rfl rfl (RD.addI rfl rfl (by omega) (by omega)) rfl ?_
        refine TE_q rfl rfl (RD.assign rfl) rfl ?_
        refine TE_nil0 ?_
        exact pn_againS (i + 1) ⟨(by omega), (fun j hj => (by rcases Nat.lt_or_ge j i with h | h; exact hall j h; obtain rfl : j = i := (by omega); exact ent_T hc9))⟩ (by omega) ⟨rfl, rfl, trivial⟩ (fun a => by simp -failIfUnchanged <;> omega)
    · refine pn_exit ?_
      refine pn_seq ?_
      refine pn_plainG [] [] rfl (fun a => by simp -failIfUnchanged <;> omega) ?_
      refine TE_q rfl rfl (RD.assign rfl) rfl ?_
      refine TE_nil0 ?_
      refine pn_ret ?_
      exact pn_doneS [] rfl rfl ⟨(congrArg Value.bool ((tree_T fun j hj => hall j (by omega)).trans (decide_eq_true (by omega))).symm), rfl⟩ (fun _ => Nat.zero_le _) (fun _ he => nomatch he)

theorem pars_F {l : List (Nat → Int)} {i k : Nat} (hi : i < l.length) (hk : k < i) (h : sameN 32 (gt l i) (gt l k) = true) : false = parsB l := by
  rw [parsB, uniq_F hi hk h, Bool.and_false]
theorem pars_T {l : List (Nat → Int)} (h : ∀ i k, i < l.length → k < i → sameN 32 (gt l i) (gt l k) = false) : decide ((l.length : Int) ≤ 4) = parsB l := by
  rw [parsB, uniq_T h, Bool.and_true]
  exact decide_eq_decide.2 (by omega)

theorem c_r7parents (lv : Value) (l : List ((Nat → Int))) (HX : Mem) (w : World) (hbl : Rdx 32 (idC) HX lv l) (hll : l.length ≤ 1000000) (hH : Hp HX w) : Calls Try.prog 29 #[lv] w (Ret w [] fun v H1 => v = .bool (parsB l) ∧ H1 = []) := by
  refine fn_enter (args := [_]) Try.func29 rfl Try.ntmps29 rfl hH ?_
  refine pn_seq ?_
  refine pn_plain [] rfl ?_
  refine TE_q rfl rfl (RD.assign rfl) rfl ?_
  refine TE_nil0 ?_
  refine pn_seq ?_
  refine pn_seq ?_
  refine pn_plain [] rfl ?_
  refine TE_q rfl rfl (RD.assign rfl) rfl ?_
  refine TE_nil0 ?_
  refine pn_block ?_
  refine pn_loopS (σ := Nat) (fun q => [(0, lv), (3, .int .i64 (q : Int))]) (fun q => HX) (fun q => (q ≤ l.length) ∧ (∀ j k, j < q → k < j → sameN 32 (gt l j) (gt l k) = false)) (fun q => l.length - q) 0 ⟨(by omega), (fun j k hj => absurd hj (Nat.not_lt_zero _))⟩ ⟨rfl, rfl, trivial⟩ (fun a => by simp -failIfUnchanged <;> omega) ?_
  rintro i ⟨hi, hall⟩
  refine pn_seq ?_
  refine pn_seq ?_
  refine pn_plain [2] rfl ?_
  refine TE_q rfl rfl (RD.move rfl) rfl ?_
  refine TE_q rfl rfl (RD.move rfl) rfl ?_
  refine TE_q rfl rfl (RD.lenX Try.runUnderlying26 rfl hbl) rfl ?_
  refine TE_q rfl rfl (RD.lss rfl rfl) rfl ?_
  refine TE_nil0 ?_
  refine pn_condD rfl (fun hc1 => ?_) (fun hc1 => ?_)
  · refine pn_skip ?_
    refine pn_seq ?_
    refine pn_block ?_
    refine pn_seq ?_
    refine pn_plain [] rfl ?_
    refine TE_q rfl rfl (RD.assign rfl) rfl ?_
    refine TE_nil0 ?_
    refine pn_block ?_
    refine pn_loopS (σ := Nat) (fun q => [(0, lv), (3, .int .i64 (i : Int)), (4, .int .i64 (q : Int))]) (fun q => HX) (fun q => (q ≤ i) ∧ (∀ m, m < q → sameN 32 (gt l i) (gt l m) = false)) (fun q => i - q) 0 ⟨(by omega), (fun m hm => absurd hm (Nat.not_lt_zero _))⟩ ⟨rfl, rfl, rfl, trivial⟩ (fun a => by simp -failIfUnchanged <;> omega) ?_
    rintro k ⟨hk, hrow⟩
    refine pn_seq ?_
    refine pn_seq ?_
    refine pn_plain [] rfl ?_
    refine TE_q rfl rfl (RD.move rfl) rfl ?_
    refine TE_q rfl rfl (RD.move rfl) rfl ?_
    refine TE_q rfl rfl (RD.lss rfl rfl) rfl ?_
    refine TE_nil0 ?_
    refine pn_condD rfl (fun hc2 => ?_) (fun hc2 => ?_)
    · refine pn_skip ?_
      refine pn_seq ?_
      refine pn_block ?_
      refine pn_seq ?_
      refine pn_drawG [3, 7] [] HX rfl rfl (by kernel_rfl) (fun a => by simp -failIfUnchanged <;> omega) ?_
      refine TE_q rfl rfl (RD.move rfl) rfl ?_
      refine TE_q rfl rfl (RD.move rfl) rfl ?_
      refine TE_q rfl rfl (RD.idxR (i := i) (o := (i * 32 + 0)) Try.runUnderlying26 Try.sizeOf25 rfl hbl rfl rfl (by omega) (by rfl)) rfl ?_
      refine TE_q rfl rfl (RD.ldRA (i := i) (j := 0) (vs := (idC (gt l i))) Try.isAgg25 Try.sizeOf25 rfl hbl (gt_some (by omega)) (by rfl) rfl (fun _ _ hu => by rw [Nat.zero_add]; exact hu) (idC_agg _) (fun _ hw => hw.sp (fun a => by simp -failIfUnchanged <;> omega))) rfl ?_
      refine TE_q rfl rfl (RD.move rfl) rfl ?_
      refine TE_q rfl rfl (RD.move rfl) rfl ?_
      refine TE_q rfl rfl (RD.idxR (i := k) (o := (k * 32 + 0)) Try.runUnderlying26 Try.sizeOf25 rfl hbl rfl rfl (by omega) (by rfl)) rfl ?_
      refine TE_q rfl rfl (RD.ldRA (i := k) (j := 0) (vs := (idC (gt l k))) Try.isAgg25 Try.sizeOf25 rfl hbl (gt_some (by omega)) (by rfl) rfl (fun _ _ hu => by rw [Nat.zero_add]; exact hu) (idC_agg _) (fun _ hw => hw.sp (fun a => by simp -failIfUnchanged <;> omega))) rfl ?_
      refine TE_q rfl rfl (RD.eql_agg Try.eqGuardType25 (eq_id (gt l i) (gt l k)) rfl rfl) rfl ?_
      refine TE_nil ?_
      refine pn_cond rfl (fun hc3 => ?_) (fun hc3 => ?_)
      · refine pn_seq ?_
        refine pn_plainG [] [] rfl (fun a => by simp -failIfUnchanged <;> omega) ?_
        refine TE_q rfl rfl (RD.assign rfl) rfl ?_
        refine TE_nil0 ?_
        refine pn_ret ?_
        exact pn_doneS [] rfl rfl ⟨(congrArg Value.bool (pars_F (i := i) (k := k) (by omega) (by omega) hc3)), rfl⟩ (fun _ => Nat.zero_le _) (fun _ he => nomatch he)
      · refine pn_skip ?_
        refine pn_plainG [] HX rfl (fun a => by simp -failIfUnchanged <;> omega) ?_
        refine TE_q rfl rfl (RD.move rfl) rfl ?_
        refine TE_q rfl rfl (RD.addI rfl rfl (by omega) (by omega)) rfl ?_
        refine TE_q rfl rfl (RD.assign rfl) rfl ?_
        refine TE_nil0 ?_
        exact pn_againS (k + 1) ⟨(by omega), (fun m hm => by rcases Nat.lt_or_ge m k with h | h; exact hrow m h; obtain rfl : m = k := (by omega); assumption)⟩ (by omega) ⟨rfl, rfl, rfl, trivial⟩ (fun a => by simp -failIfUnchanged <;> omega)
    · refine pn_exit ?_
      refine pn_plain [] rfl ?_
      refine TE_q rfl rfl (RD.move rfl) rfl ?_
      refine TE_q rfl rfl (RD.addI rfl rfl (by omega) (by omega)) rfl ?_
      refine TE_q rfl rfl (RD.assign rfl) rfl ?_
      refine TE_nil0 ?_
      exact pn_againS (i + 1) ⟨(by omega), (fun j m hj hm => by rcases Nat.lt_or_ge j i with h | h; exact hall j m h hm; obtain rfl : j = i := (by omega); exact hrow m (by omega))⟩ (by omega) ⟨rfl, rfl, trivial⟩ (fun a => by simp -failIfUnchanged <;> omega)
  · refine pn_exit ?_
    refine pn_seq ?_
    refine pn_plain [1] rfl ?_
    refine TE_q rfl rfl (RD.move rfl) rfl ?_
    refine TE_q rfl rfl (RD.lenX Try.runUnderlying26 rfl hbl) rfl ?_
    refine TE_q rfl rfl (RD.leq rfl rfl) rfl ?_
    refine TE_q rfl rfl (RD.assign rfl) rfl ?_
    refine TE_nil0 ?_
    refine pn_ret ?_
    exact pn_doneS [] rfl rfl ⟨(congrArg Value.bool (pars_T fun i k h1 h2 => hall i k (by omega) h2)), rfl⟩ (fun _ => Nat.zero_le _) (fun _ he => nomatch he)

end Go.Proofs.Ytjdjlcmajeikcaa
