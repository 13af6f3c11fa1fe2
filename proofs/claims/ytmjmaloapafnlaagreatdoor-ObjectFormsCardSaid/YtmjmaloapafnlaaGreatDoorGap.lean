import Derived.Test.YtmjmaloapafnlaaGreatDoorGao
namespace Go.Proofs.YtmjmaloapafnlaaGreatDoor
open Tryz
open Go Go.Mv
set_option maxRecDepth 8000
theorem c_equalE (xsv : Value) (xs : List Ent) (ysv : Value) (ys : List Ent) (HX : Mem) (w : World) (hbxs : Rdx 34 (entC) HX xsv xs) (hlxs : xs.length ≤ 1000000) (hbys : Rdx 34 (entC) HX ysv ys) (hlys : ys.length ≤ 1000000) (hH : Hp HX w) : Calls Tryz.prog 146 #[xsv, ysv] w (Ret w [] fun v H1 => v = .bool (sameGL same_ent xs ys) ∧ H1 = []) := by
 refine fn_enter (args := [_, _]) func146 rfl ntmps146 rfl hH (sq (pl (qa rfl (n0 (sq (sq (pn_plain [1, 3] rfl (qm rfl (qq rfl (RD.lenX runUnderlying43 rfl hbxs) ?_)))))))))
 refine qm rfl (qq rfl (RD.lenX runUnderlying43 rfl hbys) (qq rfl (RD.neq rfl rfl) (n0 (pn_condN rfl (fun hc1 => ?_) (fun hc1 => ?_)))))
 ·exact sq (plG [] [] (qa rfl (n0 (rt (pn_doneS [] rfl rfl ⟨(congrArg Value.bool (sameG_len (by omega)).symm), rfl⟩ (fun _ => Nat.zero_le _) (fun _ he => nomatch he))))))
 ·refine sk (sq (sq (pn_plain [1] rfl (qm rfl (qq rfl (RD.lenX runUnderlying43 rfl hbxs) (qm rfl (n0 (pn_block (lpS (σ := Nat) (fun q => [(0, xsv), (1, ysv), (12, .int .i64 (xs.length : Int)), (13, .int .i64 (q : Int))]) (fun q => HX) (fun q => (q ≤ xs.length) ∧ (∀ j, j < q → same_ent (gt xs j) (gt ys j) = true)) (fun q => xs.length - q) 0 ⟨(by omega), (fun j hj => absurd hj (Nat.not_lt_zero _))⟩ ⟨rfl, rfl, rfl, rfl, trivial⟩ ?_)))))))))
  rintro i ⟨hi, hall⟩
  refine sq (pl (qq rfl (RD.lss rfl rfl) (n0 (sq (pn_condD rfl (fun hc2 => ?_) (fun hc2 => ?_))))))
  ·refine sk (sq (pn_block (sq (pl (qm rfl (qa rfl (n0 (sq (dG [3, 7] [] HX ?_)))))))))
   refine qm rfl (qm rfl (qq rfl (RD.idxR (i := i) (o := (i * 34 + 0)) runUnderlying43 sizeOf113 rfl hbxs rfl rfl (by omega) (by rfl)) (qq rfl (RD.ldRA (i := i) (j := 0) (vs := (entC (gt xs i))) isAgg113 sizeOf113 rfl hbxs (gt_some (by omega)) (by rfl) rfl (fun _ _ hu => by rw [Nat.zero_add]; exact hu) (entC_agg _) sb) (qm rfl (qm rfl (qq rfl (RD.idxR (i := i) (o := (i * 34 + 0)) runUnderlying43 sizeOf113 rfl hbys rfl rfl (by omega) (by rfl)) (qq rfl (RD.ldRA (i := i) (j := 0) (vs := (entC (gt ys i))) isAgg113 sizeOf113 rfl hbys (gt_some (by omega)) (by rfl) rfl (fun _ _ hu => by rw [Nat.zero_add]; exact hu) (entC_agg _) sb) (qq rfl (RD.neq_agg eqGuardType113 (eq_ent (gt xs i) (gt ys i)) rfl rfl) (TE_nil ?_)))))))))
   refine pn_cond rfl (fun hc3 => ?_) (fun hc3 => ?_)
   ·simp only [Bool.not_eq_true'] at hc3
    exact sq (plG [] [] (qa rfl (n0 (rt (pn_doneS [] rfl rfl ⟨(congrArg Value.bool (sameG_F (f := same_ent) (i := i) (by omega) (by omega) (by assumption)).symm), rfl⟩ (fun _ => Nat.zero_le _) (fun _ he => nomatch he))))))
   ·simp only [Bool.not_eq_false'] at hc3
    exact sk (plG [] HX (qq rfl (RD.addI rfl rfl (by omega) (by omega)) (qm rfl (n0 (agS (i + 1) ⟨(by omega), (fun j hj => by rcases Nat.lt_or_ge j i with h | h; exact hall j h; obtain rfl : j = i := (by omega); assumption)⟩ (by omega) ⟨rfl, rfl, rfl, rfl, trivial⟩)))))
  ·exact xt (sq (plG [] [] (qa rfl (n0 (rt (pn_doneS [] rfl rfl ⟨(congrArg Value.bool (sameG_T (f := same_ent) (by omega) fun j hj => hall j (by omega)).symm), rfl⟩ (fun _ => Nat.zero_le _) (fun _ he => nomatch he)))))))
theorem c_equalI (xsv : Value) (xs : List ((Nat → Int))) (ysv : Value) (ys : List ((Nat → Int))) (HX : Mem) (w : World) (hbxs : Rdx 32 (idC) HX xsv xs) (hlxs : xs.length ≤ 1000000) (hbys : Rdx 32 (idC) HX ysv ys) (hlys : ys.length ≤ 1000000) (hH : Hp HX w) : Calls Tryz.prog 147 #[xsv, ysv] w (Ret w [] fun v H1 => v = .bool (sameIL xs ys) ∧ H1 = []) := by
 refine fn_enter (args := [_, _]) func147 rfl ntmps147 rfl hH (sq (pl (qa rfl (n0 (sq (sq (pn_plain [1, 3] rfl (qm rfl (qq rfl (RD.lenX runUnderlying44 rfl hbxs) ?_)))))))))
 refine qm rfl (qq rfl (RD.lenX runUnderlying44 rfl hbys) (qq rfl (RD.neq rfl rfl) (n0 (pn_condN rfl (fun hc1 => ?_) (fun hc1 => ?_)))))
 ·exact sq (plG [] [] (qa rfl (n0 (rt (pn_doneS [] rfl rfl ⟨(congrArg Value.bool (((sameG_len (by omega)).symm).trans (sameIG_eq _ _).symm)), rfl⟩ (fun _ => Nat.zero_le _) (fun _ he => nomatch he))))))
 ·refine sk (sq (sq (pn_plain [1] rfl (qm rfl (qq rfl (RD.lenX runUnderlying44 rfl hbxs) (qm rfl (n0 (pn_block (lpS (σ := Nat) (fun q => [(0, xsv), (1, ysv), (12, .int .i64 (xs.length : Int)), (13, .int .i64 (q : Int))]) (fun q => HX) (fun q => (q ≤ xs.length) ∧ (∀ j, j < q → (sameN 32) (gt xs j) (gt ys j) = true)) (fun q => xs.length - q) 0 ⟨(by omega), (fun j hj => absurd hj (Nat.not_lt_zero _))⟩ ⟨rfl, rfl, rfl, rfl, trivial⟩ ?_)))))))))
  rintro i ⟨hi, hall⟩
  refine sq (pl (qq rfl (RD.lss rfl rfl) (n0 (sq (pn_condD rfl (fun hc2 => ?_) (fun hc2 => ?_))))))
  ·refine sk (sq (pn_block (sq (pl (qm rfl (qa rfl (n0 (sq (dG [3, 7] [] HX ?_)))))))))
   refine qm rfl (qm rfl (qq rfl (RD.idxR (i := i) (o := (i * 32 + 0)) runUnderlying44 sizeOf36 rfl hbxs rfl rfl (by omega) (by rfl)) (qq rfl (RD.ldRA (i := i) (j := 0) (vs := (idC (gt xs i))) isAgg36 sizeOf36 rfl hbxs (gt_some (by omega)) (by rfl) rfl (fun _ _ hu => by rw [Nat.zero_add]; exact hu) (idC_agg _) sb) (qm rfl (qm rfl (qq rfl (RD.idxR (i := i) (o := (i * 32 + 0)) runUnderlying44 sizeOf36 rfl hbys rfl rfl (by omega) (by rfl)) (qq rfl (RD.ldRA (i := i) (j := 0) (vs := (idC (gt ys i))) isAgg36 sizeOf36 rfl hbys (gt_some (by omega)) (by rfl) rfl (fun _ _ hu => by rw [Nat.zero_add]; exact hu) (idC_agg _) sb) (qq rfl (RD.neq_agg eqGuardType36 (eq_id (gt xs i) (gt ys i)) rfl rfl) (TE_nil ?_)))))))))
   refine pn_cond rfl (fun hc3 => ?_) (fun hc3 => ?_)
   ·simp only [Bool.not_eq_true'] at hc3
    exact sq (plG [] [] (qa rfl (n0 (rt (pn_doneS [] rfl rfl ⟨(congrArg Value.bool (((sameG_F (f := (sameN 32)) (i := i) (by omega) (by omega) (by assumption)).symm).trans (sameIG_eq _ _).symm)), rfl⟩ (fun _ => Nat.zero_le _) (fun _ he => nomatch he))))))
   ·simp only [Bool.not_eq_false'] at hc3
    exact sk (plG [] HX (qq rfl (RD.addI rfl rfl (by omega) (by omega)) (qm rfl (n0 (agS (i + 1) ⟨(by omega), (fun j hj => by rcases Nat.lt_or_ge j i with h | h; exact hall j h; obtain rfl : j = i := (by omega); assumption)⟩ (by omega) ⟨rfl, rfl, rfl, rfl, trivial⟩)))))
  ·exact xt (sq (plG [] [] (qa rfl (n0 (rt (pn_doneS [] rfl rfl ⟨(congrArg Value.bool (((sameG_T (f := (sameN 32)) (by omega) fun j hj => hall j (by omega)).symm).trans (sameIG_eq _ _).symm)), rfl⟩ (fun _ => Nat.zero_le _) (fun _ he => nomatch he)))))))
theorem c_bytesEqual (xsv : Value) (xs : List UInt8) (ysv : Value) (ys : List UInt8) (HX : Mem) (w : World) (hbxs : Rdb HX xsv xs) (hbys : Rdb HX ysv ys) (hH : Hp HX w) : Calls Tryz.prog 145 #[xsv, ysv] w (Ret w [] fun v H1 => v = .bool (decide (xs = ys)) ∧ H1 = []) := by
 refine fn_enter (args := [_, _]) func145 rfl ntmps145 rfl hH (sq (pl (qa rfl (n0 (sq (pl (qm rfl (ql rfl (RD.str_of_bytes underlying32 underlying9 underlying5 rfl (BytesIn.s (hbxs).bytes)) (qm rfl ?_)))))))))
 exact ql rfl (RD.str_of_bytes underlying32 underlying9 underlying5 rfl (BytesIn.s (hbys).bytes)) (qq rfl (RD.eql_string rfl rfl) (qa rfl (n0 (rt (pn_doneS [] rfl rfl ⟨(congrArg Value.bool (decide_eq_decide.2 ba_eq)), rfl⟩ (fun _ => Nat.zero_le _) (fun _ he => nomatch he))))))
theorem c_great (x : Ob) (xd : Value) (xe : Value) (xp : Value) (HX : Mem) (w : World) (hbxd : Rdb HX xd x.data) (hbxe : Rdx 34 (entC) HX xe x.ents) (hbxp : Rdx 32 (idC) HX xp x.pars) (hox : ObW x) (hH : Hp HX w) : Calls Tryz.prog 26 #[objV x xd xe xp] w (Ret w [] fun v H1 => v = .int .i64 (greatI x) ∧ H1 = []) := by
 have hw1 := hox.d; have hw2 := hox.e; have hw3 := hox.p
 refine fn_enter (args := [_]) func26 rfl ntmps26 rfl hH (sq (pl (TE_boxC (objV x xd xe xp).cells rfl rfl rfl trivial rfl fun b1 hb1 => (qa rfl (n0 (sq (sq (pn_plain [2, 7, 13, 19] rfl (qq rfl (RD.fieldAddr (o := 1) runUnderlying48 rfl rfl sizeOf32 rfl) ?_)))))))))
 refine ql rfl (RD.load (i := 0) (v := xd) isAgg32 rfl rfl rfl) (qq rfl (RD.lenR runUnderlying32 rfl hbxd) (qq rfl (RD.gtr rfl rfl) (qm rfl (TE_join (σ := Unit) (fun _ => [(1, .pointer (some ⟨b1, 0, none⟩)), (25, .bool ((decide (1100 < (x.data.length : Int))) || ((decide (40 < (x.ents.length : Int))) || ((decide (10 < (x.pars.length : Int))) || (decide (300 < (x.m.size : Int)))))))]) (fun _ => ((b1, .cells (objV x xd xe xp).cells 48 (0, 0)) :: HX)) (fun _ => True) ?_ ?_))))
 ·refine TE_dec (fun hf1 => ?_) (fun hf1 => ?_)
  ·refine qs rfl (qs rfl (qs rfl (qs rfl (qT rfl (qm rfl (qs rfl (qs rfl (qs rfl (qs rfl ?_)))))))))
   exact qT rfl (qm rfl (qs rfl (qs rfl (qs rfl (qs rfl (qT rfl (n0 (pn_give () trivial ⟨rfl, congrArg (fun b => some (Value.bool b)) (by first | (simp [hf1]; done) | (simp only [decide_eq_true hf1]; rfl) | (simp only [decide_eq_true hf1]; simp; done)), trivial⟩ sb))))))))
  ·refine TE_gq rfl rfl rfl rfl (RD.fieldAddr (o := 2) runUnderlying48 rfl rfl sizeOf43 rfl) rfl (ql rfl (RD.load (i := 0) (v := xe) isAgg43 rfl rfl rfl) (TE_gq rfl rfl rfl rfl (RD.lenX runUnderlying43 rfl hbxe) rfl (TE_gq rfl rfl rfl rfl (RD.gtr rfl rfl) rfl (qF rfl (qm rfl (TE_dec (fun hf2 => ?_) (fun hf2 => ?_)))))))
   ·refine qs rfl (qs rfl (qs rfl (qs rfl (qT rfl (qm rfl (qs rfl (qs rfl (qs rfl (qs rfl ?_)))))))))
    exact qT rfl (n0 (pn_give () trivial ⟨rfl, congrArg (fun b => some (Value.bool b)) (by first | (simp [hf1, hf2]; done) | (simp only [decide_eq_false hf1, decide_eq_true hf2]; rfl) | (simp only [decide_eq_false hf1, decide_eq_true hf2]; simp; done)), trivial⟩ sb))
   ·refine TE_gq rfl rfl rfl rfl (RD.fieldAddr (o := 35) runUnderlying48 rfl rfl sizeOf44 rfl) rfl (ql rfl (RD.load (i := 0) (v := xp) isAgg44 rfl rfl rfl) (TE_gq rfl rfl rfl rfl (RD.lenX runUnderlying44 rfl hbxp) rfl (TE_gq rfl rfl rfl rfl (RD.gtr rfl rfl) rfl (qF rfl (qm rfl (TE_dec (fun hf3 => ?_) (fun hf3 => ?_)))))))
    ·exact qs rfl (qs rfl (qs rfl (qs rfl (qT rfl (n0 (pn_give () trivial ⟨rfl, congrArg (fun b => some (Value.bool b)) (by first | (simp [hf1, hf2, hf3]; done) | (simp only [decide_eq_false hf1, decide_eq_false hf2, decide_eq_true hf3]; rfl) | (simp only [decide_eq_false hf1, decide_eq_false hf2, decide_eq_true hf3]; simp; done)), trivial⟩ sb))))))
    ·exact TE_gq rfl rfl rfl rfl (RD.fieldAddr (o := 69) runUnderlying48 rfl rfl sizeOf9 rfl) rfl (ql rfl (RD.load (i := 0) (v := .string x.m) isAgg9 rfl rfl rfl) (TE_gq rfl rfl rfl rfl (RD.len_string runUnderlying9 rfl) rfl (TE_gq rfl rfl rfl rfl (RD.gtr rfl rfl) rfl (qF rfl (n0 (pn_give () trivial ⟨rfl, congrArg (fun b => some (Value.bool b)) (by first | (simp [hf1, hf2, hf3]; done) | (simp only [decide_eq_false hf1, decide_eq_false hf2, decide_eq_false hf3]; rfl) | (simp only [decide_eq_false hf1, decide_eq_false hf2, decide_eq_false hf3]; simp; done)), trivial⟩ sb))))))
 rintro _ -
 refine pn_cond rfl (fun hc4 => ?_) (fun hc4 => ?_)
 ·simp only [Bool.or_eq_true, decide_eq_true_eq] at hc4
  exact sq (plG [] [] (qa rfl (n0 (rt (pn_doneS [] rfl rfl ⟨(congrArg (Value.int .i64) (great_1 (by omega))), rfl⟩ (fun _ => Nat.zero_le _) (fun _ he => nomatch he))))))
 ·simp only [Bool.or_eq_false_iff, decide_eq_false_iff_not] at hc4
  refine sk (sq (sq (pl (qa rfl (n0 (pn_block (lpS (σ := Nat) (fun q => [(1, .pointer (some ⟨b1, 0, none⟩)), (3, .int .i64 (q : Int))]) (fun q => ((b1, .cells (objV x xd xe xp).cells 48 (0, 0)) :: HX)) (fun q => (q ≤ x.ents.length) ∧ (∀ j, j < q → (gt x.ents j).name.size ≤ 100)) (fun q => x.ents.length - q) 0 ⟨(by omega), (fun j hj => absurd hj (Nat.not_lt_zero _))⟩ ⟨rfl, rfl, trivial⟩ ?_)))))))
  rintro i ⟨hi, hall⟩
  refine sq (sq (pn_plain [3] rfl (qm rfl (qq rfl (RD.fieldAddr (o := 2) runUnderlying48 rfl rfl sizeOf43 rfl) (ql rfl (RD.load (i := 0) (v := xe) isAgg43 rfl rfl rfl) (qq rfl (RD.lenX runUnderlying43 rfl hbxe) (qq rfl (RD.lss rfl rfl) (n0 (pn_condD rfl (fun hc5 => ?_) (fun hc5 => ?_))))))))))
  ·refine sk (sq (pn_block (sq (pn_plain [6] rfl (qq rfl (RD.fieldAddr (o := 2) runUnderlying48 rfl rfl sizeOf43 rfl) (ql rfl (RD.load (i := 0) (v := xe) isAgg43 rfl rfl rfl) (qm rfl (qq rfl (RD.idxR (i := i) (o := (i * 34 + 0)) runUnderlying43 sizeOf113 rfl hbxe rfl rfl (by omega) (by rfl)) (qq rfl (RD.fldR (i := i) (o' := (i * 34 + 0)) runUnderlying113 rfl (by rfl) sizeOf9 rfl hbxe (by omega)) ?_)))))))))
   refine ql rfl (RD.ldR (i := i) (j := 0) (u := .string ((gt x.ents i).name)) isAgg9 rfl hbxe (gt_some (by omega)) (by rfl) rfl sb) (qq rfl (RD.len_string runUnderlying9 rfl) (qq rfl (RD.gtr rfl rfl) (n0 (pn_condD rfl (fun hc6 => ?_) (fun hc6 => ?_)))))
   ·exact sq (plG [] [] (qa rfl (n0 (rt (pn_doneS [] rfl rfl ⟨(congrArg (Value.int .i64) (great_2 (i := i) (by omega) (by omega))), rfl⟩ (fun _ => Nat.zero_le _) (fun _ he => nomatch he))))))
   ·exact sk (pl (qm rfl (qq rfl (RD.addI rfl rfl (by omega) (by omega)) (qa rfl (n0 (agS (i + 1) ⟨(by omega), (fun j hj => by rcases Nat.lt_or_ge j i with h | h; exact hall j h; obtain rfl : j = i := (by omega); omega)⟩ (by omega) ⟨rfl, rfl, trivial⟩))))))
  ·exact xt (sq (plG [] [] (qa rfl (n0 (rt (pn_doneS [] rfl rfl ⟨(congrArg (Value.int .i64) (great_3 (by omega) (by omega) (by omega) (by omega) fun j hj => hall j (by omega))), rfl⟩ (fun _ => Nat.zero_le _) (fun _ he => nomatch he)))))))
theorem c_r7Zero (t : (Nat → Int)) (w : World) (hH : Hp [] w) : Calls Tryz.prog 92 #[idV t] w (Ret w [] fun v H1 => v = .bool (idZ t) ∧ H1 = []) := by
 refine fn_enter (args := [_]) func92 rfl ntmps92 rfl hH (sq (pl (TE_boxC (idV t).cells rfl rfl rfl trivial rfl fun b1 hb1 => (qa rfl (n0 (sq (pl (ql rfl (RD.loadA (i := 0) isAgg36 sizeOf36 rfl rfl (Nat.le_of_ble_eq_true rfl) (id_all _)) (qq rfl (RD.build (v := idV (fun _ => 0)) rfl (bd_id0)) ?_)))))))))
 exact qq rfl (RD.eql_agg eqGuardType36 (eq_id t (fun _ => 0)) rfl rfl) (qa rfl (n0 (rt (pn_doneS [] rfl rfl ⟨rfl, rfl⟩ (fun _ => Nat.zero_le _) (fun _ he => nomatch he)))))
theorem name_F1 {s : ByteArray} (h : (s.size : Int) < 1 ∨ 64 < (s.size : Int)) : false = nameB s := by
  rcases h with h | h
  · rw [nameB, decide_eq_false (by omega)]; rfl
  · rw [nameB, decide_eq_false (p := s.size ≤ 64) (by omega), Bool.and_false]; rfl
theorem name_F2 {s : ByteArray} {i : Nat} (hi : i < s.size) (h : ((gt s.data.toList i).toNat : Int) = 47 ∨ ((gt s.data.toList i).toNat : Int) = 0) : false = nameB s := by
  have : hasSep s = true := List.any_eq_true.2 ⟨_, gt_mem (lt_data hi), sepB_iff.2 h⟩
  rw [nameB, this]; simp
theorem name_T {s : ByteArray} (h1 : 1 ≤ (s.size : Int)) (h2 : (s.size : Int) ≤ 64) (h : ∀ j, j < s.size → sepB (gt s.data.toList j) = false) : true = nameB s := by
  have : hasSep s = false := by
    refine List.any_eq_false.2 fun c hc => ?_
    obtain ⟨j, hj, rfl⟩ := List.getElem_of_mem hc
    have e := gt_some hj
    rw [List.getElem?_eq_getElem hj] at e
    rw [Option.some.inj e, h j (by simpa using hj)]; simp
  rw [nameB, this, decide_eq_true (by omega), decide_eq_true (by omega)]; rfl
theorem sepB_ne {c : UInt8} (h1 : ¬ (c.toNat : Int) = 47) (h2 : ¬ (c.toNat : Int) = 0) : sepB c = false := by
  cases h : sepB c with
  | false => rfl
  | true => rcases sepB_iff.1 h with h | h <;> contradiction

theorem c_r7name (s : ByteArray) (w : World) (hs : s.size ≤ 1000000) (hH : Hp [] w) : Calls Tryz.prog 148 #[.string s] w (Ret w [] fun v H1 => v = .bool (nameB s) ∧ H1 = []) := by
 refine fn_enter (args := [_]) func148 rfl ntmps148 rfl hH (sq (pl (qa rfl (n0 (sq (sq (pn_plain [1, 5] rfl (qm rfl (qq rfl (RD.len_string runUnderlying9 rfl) ?_)))))))))
 refine qq rfl (RD.lss rfl rfl) (qm rfl (TE_join (σ := Unit) (fun _ => [(0, .string s), (11, .bool ((decide ((s.size : Int) < 1)) || (decide (64 < (s.size : Int)))))]) (fun _ => []) (fun _ => True) ?_ ?_))
 ·refine TE_dec (fun hf1 => ?_) (fun hf1 => ?_)
  ·exact qs rfl (qs rfl (qs rfl (qT rfl (n0 (pn_give () trivial ⟨rfl, congrArg (fun b => some (Value.bool b)) (by first | (simp [hf1]; done) | (simp only [decide_eq_true hf1]; rfl) | (simp only [decide_eq_true hf1]; simp; done)), trivial⟩ sb)))))
  ·exact qg rfl (TE_gq rfl rfl rfl rfl (RD.len_string runUnderlying9 rfl) rfl (TE_gq rfl rfl rfl rfl (RD.gtr rfl rfl) rfl (qF rfl (n0 (pn_give () trivial ⟨rfl, congrArg (fun b => some (Value.bool b)) (by first | (simp [hf1]; done) | (simp only [decide_eq_false hf1]; rfl) | (simp only [decide_eq_false hf1]; simp; done)), trivial⟩ sb)))))
 rintro _ -
 refine pn_cond rfl (fun hc2 => ?_) (fun hc2 => ?_)
 ·simp only [Bool.or_eq_true, decide_eq_true_eq] at hc2
  exact sq (pl (qa rfl (n0 (rt (pn_doneS [] rfl rfl ⟨(congrArg Value.bool (name_F1 (by omega))), rfl⟩ (fun _ => Nat.zero_le _) (fun _ he => nomatch he))))))
 ·simp only [Bool.or_eq_false_iff, decide_eq_false_iff_not] at hc2
  refine sk (sq (sq (pl (qa rfl (n0 (pn_block (lpS (σ := Nat) (fun q => [(0, .string s), (3, .int .i64 (q : Int))]) (fun q => []) (fun q => (q ≤ s.size) ∧ (∀ j, j < q → sepB (gt s.data.toList j) = false)) (fun q => s.size - q) 0 ⟨(by omega), (fun j hj => absurd hj (Nat.not_lt_zero _))⟩ ⟨rfl, rfl, trivial⟩ ?_)))))))
  rintro i ⟨hi, hall⟩
  refine sq (sq (pn_plain [2] rfl (qm rfl (qm rfl (qq rfl (RD.len_string runUnderlying9 rfl) (qq rfl (RD.lss rfl rfl) (n0 (pn_condD rfl (fun hc3 => ?_) (fun hc3 => ?_)))))))))
  ·refine sk (sq (pn_block (sq (pl (qm rfl (qm rfl (qq rfl (RD.indexStr (i := i) underlying9 rfl rfl rfl (gt_some (lt_data (by omega)))) (qq rfl (RD.eql rfl rfl) (qm rfl ?_)))))))))
   refine TE_join (σ := Unit) (fun _ => [(0, .string s), (3, .int .i64 (i : Int)), (27, .bool ((decide (((gt s.data.toList i).toNat : Int) = 47)) || (decide (((gt s.data.toList i).toNat : Int) = 0))))]) (fun _ => []) (fun _ => True) ?_ ?_
   ·refine TE_dec (fun hf4 => ?_) (fun hf4 => ?_)
    ·exact qs rfl (qs rfl (qs rfl (qs rfl (qT rfl (n0 (pn_give () trivial ⟨rfl, rfl, congrArg (fun b => some (Value.bool b)) (by first | (simp [hf4]; done) | (simp only [decide_eq_true hf4]; rfl) | (simp only [decide_eq_true hf4]; simp; done)), trivial⟩ sb))))))
    ·exact qg rfl (qg rfl (TE_gq rfl rfl rfl rfl (RD.indexStr (i := i) underlying9 rfl rfl rfl (gt_some (lt_data (by omega)))) rfl (TE_gq rfl rfl rfl rfl (RD.eql rfl rfl) rfl (qF rfl (n0 (pn_give () trivial ⟨rfl, rfl, congrArg (fun b => some (Value.bool b)) (by first | (simp [hf4]; done) | (simp only [decide_eq_false hf4]; rfl) | (simp only [decide_eq_false hf4]; simp; done)), trivial⟩ sb))))))
   rintro _ -
   refine pn_cond rfl (fun hc5 => ?_) (fun hc5 => ?_)
   ·simp only [Bool.or_eq_true, decide_eq_true_eq] at hc5
    exact sq (pl (qa rfl (n0 (rt (pn_doneS [] rfl rfl ⟨(congrArg Value.bool (name_F2 (i := i) (by omega) (by omega))), rfl⟩ (fun _ => Nat.zero_le _) (fun _ he => nomatch he))))))
   ·simp only [Bool.or_eq_false_iff, decide_eq_false_iff_not] at hc5
    exact sk (pl (qm rfl (qq rfl (RD.addI rfl rfl (by omega) (by omega)) (qa rfl (n0 (agS (i + 1) ⟨(by omega), (fun j hj => (by rcases Nat.lt_or_ge j i with h | h; exact hall j h; obtain rfl : j = i := (by omega); exact sepB_ne hc5.1 hc5.2))⟩ (by omega) ⟨rfl, rfl, trivial⟩))))))
  ·exact xt (sq (pl (qa rfl (n0 (rt (pn_doneS [] rfl rfl ⟨(congrArg Value.bool (name_T (by omega) (by omega) fun j hj => hall j (by omega))), rfl⟩ (fun _ => Nat.zero_le _) (fun _ he => nomatch he)))))))
theorem ent_F {l : List Ent} {i : Nat} (h : nameB (gt l i).name = false ∨ (gt l i).k < 1 ∨ 2 < (gt l i).k ∨ 0 < (i : Int) ∧ slt (gt l ((i : Int) - 1).toNat).name (gt l i).name = false) : entAt l i = false := by
  rw [show ((i : Int) - 1).toNat = i - 1 by omega] at h
  rcases h with h | h | h | ⟨h1, h2⟩
  · simp [entAt, h]
  · rw [entAt, decide_eq_false (p := (gt l i).k = 1) (by omega), decide_eq_false (p := (gt l i).k = 2) (by omega)]; simp
  · rw [entAt, decide_eq_false (p := (gt l i).k = 1) (by omega), decide_eq_false (p := (gt l i).k = 2) (by omega)]; simp
  · rw [entAt, h2, decide_eq_false (p := i = 0) (by omega)]; simp
theorem ent_T {l : List Ent} {i : Nat} (h : nameB (gt l i).name = true ∧ ¬ (gt l i).k < 1 ∧ ¬ 2 < (gt l i).k ∧ (¬ 0 < (i : Int) ∨ slt (gt l ((i : Int) - 1).toNat).name (gt l i).name = true)) : entAt l i = true := by
  rw [show ((i : Int) - 1).toNat = i - 1 by omega] at h
  obtain ⟨h1, h2, h3, h4⟩ := h
  have h5 : (decide ((gt l i).k = 1) || decide ((gt l i).k = 2)) = true := by
    rw [Bool.or_eq_true, decide_eq_true_eq, decide_eq_true_eq]; omega
  rw [entAt, h1, h5]
  rcases h4 with h4 | h4
  · rw [decide_eq_true (by omega)]; rfl
  · rw [h4, Bool.or_true]; rfl

theorem c_r7entries (lv : Value) (l : List Ent) (HX : Mem) (w : World) (hbl : Rdx 34 (entC) HX lv l) (hll : l.length ≤ 1000000) (hol : ∀ x ∈ l, EntOk x) (hH : Hp HX w) : Calls Tryz.prog 93 #[lv] w (Ret w [] fun v H1 => v = .bool (treeB l) ∧ H1 = []) := by
 have hent : ∀ i, i < l.length → (gt l i).name.size ≤ 1000000 := fun i hi => Nat.le_trans (hol _ (gt_mem hi)).n (by decide)
 refine fn_enter (args := [_]) func93 rfl ntmps93 rfl hH (sq (pl (qa rfl (n0 (sq (sq (pn_plain [1] rfl (qm rfl (qq rfl (RD.lenX runUnderlying43 rfl hbl) ?_)))))))))
 refine qq rfl (RD.gtr rfl rfl) (n0 (pn_condD rfl (fun hc1 => ?_) (fun hc1 => ?_)))
 ·exact sq (plG [] [] (qa rfl (n0 (rt (pn_doneS [] rfl rfl ⟨(congrArg Value.bool (tree_F1 (by omega)).symm), rfl⟩ (fun _ => Nat.zero_le _) (fun _ he => nomatch he))))))
 ·refine sk (sq (sq (pl (qa rfl (n0 (pn_block (lpS (σ := Nat) (fun q => [(0, lv), (3, .int .i64 (q : Int))]) (fun q => HX) (fun q => (q ≤ l.length) ∧ (∀ j, j < q → entAt l j = true)) (fun q => l.length - q) 0 ⟨(by omega), (fun j hj => absurd hj (Nat.not_lt_zero _))⟩ ⟨rfl, rfl, trivial⟩ ?_)))))))
  rintro i ⟨hi, hall⟩
  refine sq (sq (pn_plain [2] rfl (qm rfl (qm rfl (qq rfl (RD.lenX runUnderlying43 rfl hbl) (qq rfl (RD.lss rfl rfl) (n0 (pn_condD rfl (fun hc2 => ?_) (fun hc2 => ?_)))))))))
  ·refine sk (sq (pn_block (sq (pl (qm rfl (qm rfl (qq rfl (RD.idxR (i := i) (o := (i * 34 + 0)) runUnderlying43 sizeOf113 rfl hbl rfl rfl (by omega) (by rfl)) (qq rfl (RD.fldR (i := i) (o' := (i * 34 + 0)) runUnderlying113 rfl (by rfl) sizeOf9 rfl hbl (by omega)) (ql rfl (RD.ldR (i := i) (j := 0) (u := .string ((gt l i).name)) isAgg9 rfl hbl (gt_some (by omega)) (by rfl) rfl sb) ?_)))))))))
   refine cG rfl call148 (fun w hw => c_r7name ((gt l i).name) w (hent _ (by omega)) hw.s) ?_
   rintro v3 H4 ⟨rfl, rfl⟩ -
   refine qa rfl (n0 (sq (dG [7, 15, 27, 32] [] HX (qm rfl (qq rfl (RD.not rfl) (qm rfl (TE_join (σ := Unit) (fun _ => [(0, lv), (3, .int .i64 (i : Int)), (55, .bool ((!(nameB ((gt l i).name))) || ((decide (((gt l i).k) < 1)) || ((decide (2 < ((gt l i).k))) || ((decide (0 < (i : Int))) && (!(slt ((gt l ((((i : Int) - 1)).toNat)).name) ((gt l i).name))))))))]) (fun _ => HX) (fun _ => True) ?_ ?_)))))))
   ·refine TE_bool (fun hf5 => ?_) (fun hf5 => ?_)
    ·refine qs rfl (qs rfl (qs rfl (qs rfl (qs rfl (qs rfl (qT rfl (qm rfl (qs rfl (qs rfl ?_)))))))))
     refine qs rfl (qs rfl (qs rfl (qs rfl (qT rfl (qm rfl (qs rfl (qs rfl (qs rfl (TE_su rfl rfl rfl rfl ?_)))))))))
     refine TE_su rfl rfl rfl rfl (TE_su rfl rfl rfl rfl (TE_su rfl rfl rfl rfl (TE_su rfl rfl rfl rfl (TE_su rfl rfl rfl rfl (TE_su rfl rfl rfl rfl (TE_su rfl rfl rfl rfl (TE_su rfl rfl rfl rfl (TE_su rfl rfl rfl rfl (TE_su rfl rfl rfl rfl ?_)))))))))
     exact TE_su rfl rfl rfl rfl (qs rfl (qT rfl (TE_nil (pn_give () trivial ⟨rfl, rfl, congrArg (fun b => some (Value.bool b)) (by first | (simp [hf5]; done) | (simp only [hf5]; rfl) | (simp only [hf5]; simp; done)), trivial⟩ sb))))
    ·refine qg rfl (qg rfl (TE_gq rfl rfl rfl rfl (RD.idxR (i := i) (o := (i * 34 + 0)) runUnderlying43 sizeOf113 rfl hbl rfl rfl (by omega) (by rfl)) rfl (TE_gq rfl rfl rfl rfl (RD.fldR (i := i) (o' := (i * 34 + 1)) runUnderlying113 rfl (by rfl) sizeOf3 rfl hbl (by omega)) rfl (TE_gq rfl rfl rfl rfl (RD.ldR (i := i) (j := 1) (u := .int .i64 ((gt l i).k)) isAgg3 rfl hbl (gt_some (by omega)) (by rfl) rfl sb) rfl (TE_gq rfl rfl rfl rfl (RD.lss rfl rfl) rfl (qF rfl (qm rfl (TE_dec (fun hf6 => ?_) (fun hf6 => ?_)))))))))
     ·refine qs rfl (qs rfl (qs rfl (qs rfl (qs rfl (qs rfl (qT rfl (qm rfl (qs rfl (qs rfl ?_)))))))))
      refine qs rfl (TE_su rfl rfl rfl rfl (TE_su rfl rfl rfl rfl (TE_su rfl rfl rfl rfl (TE_su rfl rfl rfl rfl (TE_su rfl rfl rfl rfl (TE_su rfl rfl rfl rfl (TE_su rfl rfl rfl rfl (TE_su rfl rfl rfl rfl (TE_su rfl rfl rfl rfl ?_)))))))))
      exact TE_su rfl rfl rfl rfl (TE_su rfl rfl rfl rfl (TE_su rfl rfl rfl rfl (qs rfl (qT rfl (TE_nil (pn_give () trivial ⟨rfl, rfl, congrArg (fun b => some (Value.bool b)) (by first | (simp [hf5, hf6]; done) | (simp only [hf5, decide_eq_true hf6]; rfl) | (simp only [hf5, decide_eq_true hf6]; simp; done)), trivial⟩ sb))))))
     ·refine qg rfl (qg rfl (TE_gq rfl rfl rfl rfl (RD.idxR (i := i) (o := (i * 34 + 0)) runUnderlying43 sizeOf113 rfl hbl rfl rfl (by omega) (by rfl)) rfl (TE_gq rfl rfl rfl rfl (RD.fldR (i := i) (o' := (i * 34 + 1)) runUnderlying113 rfl (by rfl) sizeOf3 rfl hbl (by omega)) rfl (TE_gq rfl rfl rfl rfl (RD.ldR (i := i) (j := 1) (u := .int .i64 ((gt l i).k)) isAgg3 rfl hbl (gt_some (by omega)) (by rfl) rfl sb) rfl (TE_gq rfl rfl rfl rfl (RD.gtr rfl rfl) rfl (qF rfl (qm rfl (TE_dec (fun hf7 => ?_) (fun hf7 => ?_)))))))))
      ·refine qs rfl (qs rfl (qs rfl (TE_su rfl rfl rfl rfl (TE_su rfl rfl rfl rfl (TE_su rfl rfl rfl rfl (TE_su rfl rfl rfl rfl (TE_su rfl rfl rfl rfl (TE_su rfl rfl rfl rfl (TE_su rfl rfl rfl rfl ?_)))))))))
       exact TE_su rfl rfl rfl rfl (TE_su rfl rfl rfl rfl (TE_su rfl rfl rfl rfl (TE_su rfl rfl rfl rfl (TE_su rfl rfl rfl rfl (qs rfl (qT rfl (TE_nil (pn_give () trivial ⟨rfl, rfl, congrArg (fun b => some (Value.bool b)) (by first | (simp [hf5, hf6, hf7]; done) | (simp only [hf5, decide_eq_false hf6, decide_eq_true hf7]; rfl) | (simp only [hf5, decide_eq_false hf6, decide_eq_true hf7]; simp; done)), trivial⟩ sb))))))))
      ·refine qg rfl (TE_gq rfl rfl rfl rfl (RD.gtr rfl rfl) rfl (qg rfl (TE_dec (fun hf8 => ?_) (fun hf8 => ?_))))
       ·refine qg rfl (qg rfl (TE_gq rfl rfl rfl rfl (RD.subI rfl rfl (by omega) (by omega)) rfl (TE_gq rfl rfl rfl rfl (RD.idxR (i := (((i : Int) - 1)).toNat) (o := (((((i : Int) - 1)).toNat) * 34 + 0)) runUnderlying43 sizeOf113 rfl hbl rfl (by omega) (by omega) (by rfl)) rfl (TE_gq rfl rfl rfl rfl (RD.fldR (i := ((((i : Int) - 1)).toNat)) (o' := (((((i : Int) - 1)).toNat) * 34 + 0)) runUnderlying113 rfl (by rfl) sizeOf9 rfl hbl (by omega)) rfl (TE_gq rfl rfl rfl rfl (RD.ldR (i := ((((i : Int) - 1)).toNat)) (j := 0) (u := .string ((gt l ((((i : Int) - 1)).toNat)).name)) isAgg9 rfl hbl (gt_some (by omega)) (by rfl) rfl sb) rfl (qg rfl (qg rfl (TE_gq rfl rfl rfl rfl (RD.idxR (i := i) (o := (i * 34 + 0)) runUnderlying43 sizeOf113 rfl hbl rfl rfl (by omega) (by rfl)) rfl (TE_gq rfl rfl rfl rfl (RD.fldR (i := i) (o' := (i * 34 + 0)) runUnderlying113 rfl (by rfl) sizeOf9 rfl hbl (by omega)) rfl ?_)))))))))
        exact TE_gq rfl rfl rfl rfl (RD.ldR (i := i) (j := 0) (u := .string ((gt l i).name)) isAgg9 rfl hbl (gt_some (by omega)) (by rfl) rfl sb) rfl (TE_gq rfl rfl rfl rfl (RD.geq_string rfl rfl) rfl (TE_gq rfl rfl rfl rfl (RD.pickT rfl rfl) rfl (qF rfl (TE_nil (pn_give () trivial ⟨rfl, rfl, congrArg (fun b => some (Value.bool b)) (by first | (simp [hf5, hf6, hf7, hf8]; done) | (simp only [hf5, decide_eq_false hf6, decide_eq_false hf7, decide_eq_true hf8]; rfl) | (simp only [hf5, decide_eq_false hf6, decide_eq_false hf7, decide_eq_true hf8]; simp; done)), trivial⟩ sb)))))
       ·refine qs rfl (qs rfl (qs rfl (qs rfl (qs rfl (qs rfl (qs rfl (qs rfl (qs rfl (qs rfl ?_)))))))))
        exact qs rfl (qs rfl (TE_gq rfl rfl rfl rfl (RD.pickF rfl rfl) rfl (qF rfl (TE_nil (pn_give () trivial ⟨rfl, rfl, congrArg (fun b => some (Value.bool b)) (by first | (simp [hf5, hf6, hf7, hf8]; done) | (simp only [hf5, decide_eq_false hf6, decide_eq_false hf7, decide_eq_false hf8]; rfl) | (simp only [hf5, decide_eq_false hf6, decide_eq_false hf7, decide_eq_false hf8]; simp; done)), trivial⟩ sb)))))
   rintro _ -
   refine pn_cond rfl (fun hc9 => ?_) (fun hc9 => ?_)
   ·simp only [Bool.and_eq_true, Bool.not_eq_true', Bool.or_eq_true, decide_eq_true_eq] at hc9
    exact sq (plG [] [] (qa rfl (n0 (rt (pn_doneS [] rfl rfl ⟨(congrArg Value.bool (tree_F2 (i := i) (by omega) (ent_F hc9)).symm), rfl⟩ (fun _ => Nat.zero_le _) (fun _ he => nomatch he))))))
   ·simp only [Bool.and_eq_false_iff, Bool.not_eq_false', Bool.or_eq_false_iff, decide_eq_false_iff_not] at hc9
    exact sk (pl (qm rfl (qq rfl (RD.addI rfl rfl (by omega) (by omega)) (qa rfl (n0 (agS (i + 1) ⟨(by omega), (fun j hj => (by rcases Nat.lt_or_ge j i with h | h; exact hall j h; obtain rfl : j = i := (by omega); exact ent_T hc9))⟩ (by omega) ⟨rfl, rfl, trivial⟩))))))
  ·exact xt (sq (plG [] [] (qa rfl (n0 (rt (pn_doneS [] rfl rfl ⟨(congrArg Value.bool ((tree_T fun j hj => hall j (by omega)).trans (decide_eq_true (by omega))).symm), rfl⟩ (fun _ => Nat.zero_le _) (fun _ he => nomatch he)))))))
theorem pars_F {l : List (Nat → Int)} {i k : Nat} (hi : i < l.length) (hk : k < i) (h : sameN 32 (gt l i) (gt l k) = true) : false = parsB l := by
  rw [parsB, uniq_F hi hk h, Bool.and_false]
theorem pars_T {l : List (Nat → Int)} (h : ∀ i k, i < l.length → k < i → sameN 32 (gt l i) (gt l k) = false) : decide ((l.length : Int) ≤ 4) = parsB l := by
  rw [parsB, uniq_T h, Bool.and_true]
  exact decide_eq_decide.2 (by omega)

theorem c_r7parents (lv : Value) (l : List ((Nat → Int))) (HX : Mem) (w : World) (hbl : Rdx 32 (idC) HX lv l) (hll : l.length ≤ 1000000) (hH : Hp HX w) : Calls Tryz.prog 94 #[lv] w (Ret w [] fun v H1 => v = .bool (parsB l) ∧ H1 = []) := by
 refine fn_enter (args := [_]) func94 rfl ntmps94 rfl hH (sq (pl (qa rfl (n0 (sq (sq (pl (qa rfl (n0 ?_)))))))))
 refine pn_block (lpS (σ := Nat) (fun q => [(0, lv), (3, .int .i64 (q : Int))]) (fun q => HX) (fun q => (q ≤ l.length) ∧ (∀ j k, j < q → k < j → sameN 32 (gt l j) (gt l k) = false)) (fun q => l.length - q) 0 ⟨(by omega), (fun j k hj => absurd hj (Nat.not_lt_zero _))⟩ ⟨rfl, rfl, trivial⟩ ?_)
 rintro i ⟨hi, hall⟩
 refine sq (sq (pn_plain [2] rfl (qm rfl (qm rfl (qq rfl (RD.lenX runUnderlying44 rfl hbl) (qq rfl (RD.lss rfl rfl) (n0 (pn_condD rfl (fun hc1 => ?_) (fun hc1 => ?_)))))))))
 ·refine sk (sq (pn_block (sq (pl (qa rfl (n0 (pn_block (lpS (σ := Nat) (fun q => [(0, lv), (3, .int .i64 (i : Int)), (4, .int .i64 (q : Int))]) (fun q => HX) (fun q => (q ≤ i) ∧ (∀ m, m < q → sameN 32 (gt l i) (gt l m) = false)) (fun q => i - q) 0 ⟨(by omega), (fun m hm => absurd hm (Nat.not_lt_zero _))⟩ ⟨rfl, rfl, rfl, trivial⟩ ?_))))))))
  rintro k ⟨hk, hrow⟩
  refine sq (sq (pl (qm rfl (qm rfl (qq rfl (RD.lss rfl rfl) (n0 (pn_condD rfl (fun hc2 => ?_) (fun hc2 => ?_))))))))
  ·refine sk (sq (pn_block (sq (dG [3, 7] [] HX (qm rfl (qm rfl (qq rfl (RD.idxR (i := i) (o := (i * 32 + 0)) runUnderlying44 sizeOf36 rfl hbl rfl rfl (by omega) (by rfl)) (qq rfl (RD.ldRA (i := i) (j := 0) (vs := (idC (gt l i))) isAgg36 sizeOf36 rfl hbl (gt_some (by omega)) (by rfl) rfl (fun _ _ hu => by rw [Nat.zero_add]; exact hu) (idC_agg _) sb) (qm rfl ?_)))))))))
   refine qm rfl (qq rfl (RD.idxR (i := k) (o := (k * 32 + 0)) runUnderlying44 sizeOf36 rfl hbl rfl rfl (by omega) (by rfl)) (qq rfl (RD.ldRA (i := k) (j := 0) (vs := (idC (gt l k))) isAgg36 sizeOf36 rfl hbl (gt_some (by omega)) (by rfl) rfl (fun _ _ hu => by rw [Nat.zero_add]; exact hu) (idC_agg _) sb) (qq rfl (RD.eql_agg eqGuardType36 (eq_id (gt l i) (gt l k)) rfl rfl) (TE_nil (pn_cond rfl (fun hc3 => ?_) (fun hc3 => ?_))))))
   ·exact sq (plG [] [] (qa rfl (n0 (rt (pn_doneS [] rfl rfl ⟨(congrArg Value.bool (pars_F (i := i) (k := k) (by omega) (by omega) hc3)), rfl⟩ (fun _ => Nat.zero_le _) (fun _ he => nomatch he))))))
   ·exact sk (plG [] HX (qm rfl (qq rfl (RD.addI rfl rfl (by omega) (by omega)) (qa rfl (n0 (agS (k + 1) ⟨(by omega), (fun m hm => by rcases Nat.lt_or_ge m k with h | h; exact hrow m h; obtain rfl : m = k := (by omega); assumption)⟩ (by omega) ⟨rfl, rfl, rfl, trivial⟩))))))
  ·exact xt (pl (qm rfl (qq rfl (RD.addI rfl rfl (by omega) (by omega)) (qa rfl (n0 (agS (i + 1) ⟨(by omega), (fun j m hj hm => by rcases Nat.lt_or_ge j i with h | h; exact hall j m h hm; obtain rfl : j = i := (by omega); exact hrow m (by omega))⟩ (by omega) ⟨rfl, rfl, trivial⟩))))))
 ·exact xt (sq (pn_plain [1] rfl (qm rfl (qq rfl (RD.lenX runUnderlying44 rfl hbl) (qq rfl (RD.leq rfl rfl) (qa rfl (n0 (rt (pn_doneS [] rfl rfl ⟨(congrArg Value.bool (pars_T fun i k h1 h2 => hall i k (by omega) h2)), rfl⟩ (fun _ => Nat.zero_le _) (fun _ he => nomatch he))))))))))
end Go.Proofs.YtmjmaloapafnlaaGreatDoor
