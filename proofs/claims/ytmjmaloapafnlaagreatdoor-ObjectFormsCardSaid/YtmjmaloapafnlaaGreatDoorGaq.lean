import Derived.Test.YtmjmaloapafnlaaGreatDoorGap
namespace Go.Proofs.YtmjmaloapafnlaaGreatDoor
open Tryz
open Go Go.Mv
set_option maxRecDepth 8000
theorem chkT {x : Ob} {e : Bool} (h : obOkB x = e) (hc : e = true) : (0 : Int) = err (obOkB x) 70 := by rw [h, hc]; rfl
theorem chkF {x : Ob} {e : Bool} (h : obOkB x = e) (hc : e = false) : (70 : Int) = err (obOkB x) 70 := by rw [h, hc]; rfl
theorem idZ_symm (t : Nat → Int) : sameN 32 zId t = idZ t := by
  rw [Bool.eq_iff_iff, idZ, sameN_iff, sameN_iff]
  exact ⟨fun h i hi => (h i hi).symm, fun h i hi => (h i hi).symm⟩
theorem zLnk_same (g : Lnk) : same_lnk zLnk g = (decide (g.k = 0) && idZ g.id) := by
  simp only [same_lnk, zLnk, idZ_symm, Bool.and_true]
  congr 1
  exact decide_eq_decide.2 ⟨Eq.symm, Eq.symm⟩
theorem nilI_same (l : List (Nat → Int)) : sameIL [] l = !decide (0 < (l.length : Int)) := by
  cases l with
  | nil => rfl
  | cons a l => rw [show sameIL [] (a :: l) = false from rfl, decide_eq_true (by simp)]; rfl
theorem nilE_same (l : List Ent) : sameGL same_ent [] l = !decide (0 < (l.length : Int)) := by
  cases l with
  | nil => rfl
  | cons a l => rw [show sameGL same_ent [] (a :: l) = false from rfl, decide_eq_true (by simp)]; rfl
theorem nilD_same (l : List UInt8) : decide ([] = l) = !decide (0 < (l.length : Int)) := by
  cases l with
  | nil => rfl
  | cons a l => rw [decide_eq_true (p := 0 < ((a :: l).length : Int)) (by simp)]; rfl
theorem nilS_same (s : ByteArray) : decide (⟨#[]⟩ = s) = !decide (0 < (s.size : Int)) := by
  by_cases h : s.size = 0
  · obtain rfl : s = ⟨#[]⟩ := by
      apply ByteArray.ext
      exact Array.eq_empty_of_size_eq_zero h
    rfl
  · rw [decide_eq_true (p := 0 < (s.size : Int)) (by omega), decide_eq_false (fun e => h (by rw [← e]; rfl))]; rfl
theorem sameIL_refl (l : List (Nat → Int)) : sameIL l l = true := sameIL_self l
theorem chk1 {x : Ob} (hk : x.k = 1) : obOkB x = (decide ((x.data.length : Int) ≤ 1024) && (!decide (0 < (x.ents.length : Int)) && (!(decide (0 < (x.pars.length : Int)) || !idZ x.t) && (!decide (0 < (x.m.size : Int)) && (decide (x.tg.k = 0) && idZ x.tg.id))))) := by
  have e1 : decide ((x.data.length : Int) ≤ 1024) = decide (x.data.length ≤ 1024) := decide_eq_decide.2 (by omega)
  simp only [obOkB, mayB, bareOb, hk, if_true, obSame, nilE_same, idZ_symm, nilI_same, zLnk_same, nilS_same, e1, Bool.not_or, Bool.not_not]
  generalize decide (x.data.length ≤ 1024) = a
  generalize decide (0 < (x.ents.length : Int)) = b
  generalize idZ x.t = c
  generalize decide (0 < (x.pars.length : Int)) = d
  generalize decide (x.tg.k = 0) = e
  generalize idZ x.tg.id = f
  generalize decide (0 < (x.m.size : Int)) = g
  cases a <;> cases b <;> cases c <;> cases d <;> cases e <;> cases f <;> cases g <;> rfl
theorem chk2 {x : Ob} (hk : x.k = 2) : obOkB x = (treeB x.ents && (!decide (0 < (x.data.length : Int)) && (!(decide (0 < (x.pars.length : Int)) || !idZ x.t) && (!decide (0 < (x.m.size : Int)) && (decide (x.tg.k = 0) && idZ x.tg.id))))) := by
  have h21 : ¬ (2 : Int) = 1 := by decide
  simp only [obOkB, mayB, bareOb, hk, h21, if_true, if_false, obSame, Bool.true_and, sameG_self same_ent_self, nilD_same, idZ_symm, nilI_same, zLnk_same, nilS_same, Bool.not_or, Bool.not_not]
  generalize treeB x.ents = a
  generalize decide (0 < (x.data.length : Int)) = b
  generalize idZ x.t = c
  generalize decide (0 < (x.pars.length : Int)) = d
  generalize decide (x.tg.k = 0) = e
  generalize idZ x.tg.id = f
  generalize decide (0 < (x.m.size : Int)) = g
  cases a <;> cases b <;> cases c <;> cases d <;> cases e <;> cases f <;> cases g <;> rfl
theorem chk3 {x : Ob} (hk : x.k = 3) : obOkB x = (parsB x.pars && (decide ((x.m.size : Int) ≤ 200) && (!decide (0 < (x.data.length : Int)) && (!decide (0 < (x.ents.length : Int)) && (decide (x.tg.k = 0) && idZ x.tg.id))))) := by
  have h31 : ¬ (3 : Int) = 1 := by decide
  have h32 : ¬ (3 : Int) = 2 := by decide
  have e1 : decide ((x.m.size : Int) ≤ 200) = decide (x.m.size ≤ 200) := decide_eq_decide.2 (by omega)
  simp only [obOkB, mayB, bareOb, hk, h31, h32, if_true, if_false, obSame, Bool.true_and, nilE_same, nilD_same, sameN_self, sameIL_refl, zLnk_same, e1]
  generalize parsB x.pars = a
  generalize decide (0 < (x.data.length : Int)) = b
  generalize decide (0 < (x.ents.length : Int)) = d
  generalize decide (x.tg.k = 0) = e
  generalize idZ x.tg.id = f
  generalize decide (x.m.size ≤ 200) = g
  cases a <;> cases b <;> cases d <;> cases e <;> cases f <;> cases g <;> rfl
theorem chk4 {x : Ob} (hk : x.k = 4) : obOkB x = (decide (1 ≤ x.tg.k) && (decide (x.tg.k ≤ 4) && (decide ((x.m.size : Int) ≤ 200) && (!decide (0 < (x.data.length : Int)) && (!decide (0 < (x.ents.length : Int)) && !(decide (0 < (x.pars.length : Int)) || !idZ x.t)))))) := by
  have h41 : ¬ (4 : Int) = 1 := by decide
  have h42 : ¬ (4 : Int) = 2 := by decide
  have h43 : ¬ (4 : Int) = 3 := by decide
  have e1 : decide ((x.m.size : Int) ≤ 200) = decide (x.m.size ≤ 200) := decide_eq_decide.2 (by omega)
  simp only [obOkB, mayB, bareOb, hk, h41, h42, h43, if_true, if_false, obSame, Bool.true_and, nilE_same, nilD_same, idZ_symm, nilI_same, same_lnk_self, e1, Bool.not_or, Bool.not_not]
  generalize decide (1 ≤ x.tg.k) = a
  generalize decide (0 < (x.data.length : Int)) = b
  generalize decide (0 < (x.ents.length : Int)) = d
  generalize decide (x.tg.k ≤ 4) = e
  generalize idZ x.t = f
  generalize decide (0 < (x.pars.length : Int)) = h
  generalize decide (x.m.size ≤ 200) = g
  cases a <;> cases b <;> cases d <;> cases e <;> cases f <;> cases g <;> cases h <;> rfl
theorem chk0 {x : Ob} (h1 : ¬ x.k = 1) (h2 : ¬ x.k = 2) (h3 : ¬ x.k = 3) (h4 : ¬ x.k = 4) : obOkB x = false := by
  simp only [obOkB, mayB, h1, h2, h3, h4, if_false, Bool.false_and]

theorem c_r7Check (x : Ob) (xd : Value) (xe : Value) (xp : Value) (HX : Mem) (w : World) (hbxd : Rdb HX xd x.data) (hbxe : Rdx 34 (entC) HX xe x.ents) (hbxp : Rdx 32 (idC) HX xp x.pars) (hox : ObOk x) (hH : Hp HX w) : Calls Tryz.prog 36 #[objV x xd xe xp] w (Ret w [] fun v H1 => v = .int .i64 (err (obOkB x) 70) ∧ H1 = []) := by
 have hw1 := hox.d; have hw2 := hox.e; have hw3 := hox.p; have hw4 := hox.m; have hwe := hox.en
 refine fn_enter (args := [_]) func36 rfl ntmps36 rfl hH (sq (pl (TE_boxC (objV x xd xe xp).cells rfl rfl rfl trivial rfl fun b1 hb1 => (qa rfl (n0 (sq (pl (qq rfl (RD.fieldAddr (o := 3) runUnderlying48 rfl rfl sizeOf36 rfl) (ql rfl (RD.loadA (i := 0) (v := idV x.t) isAgg36 sizeOf36 rfl rfl (Nat.le_of_ble_eq_true rfl) (obj_t _ _ _ _)) ?_)))))))))
 refine cG rfl call92 (fun w hw => c_r7Zero x.t w  hw.s) ?_
 rintro v1 H2 ⟨rfl, rfl⟩ -
 refine qa rfl (n0 (sq (pl (qq rfl (RD.fieldAddr (o := 36) runUnderlying48 rfl rfl sizeOf46 rfl) (qq rfl (RD.fieldAddr (o := 36) runUnderlying46 rfl rfl sizeOf3 rfl) (ql rfl (RD.load (i := 0) (v := .int .i64 x.tg.k) isAgg3 rfl rfl rfl) (qq rfl (RD.eql rfl rfl) (qm rfl (TE_join (σ := Unit) (fun _ => [(1, .pointer (some ⟨b1, 0, none⟩)), (3, .bool (idZ x.t)), (4, .bool ((decide (x.tg.k = 0)) && (idZ x.tg.id)))]) (fun _ => ((b1, .cells (objV x xd xe xp).cells 48 (0, 0)) :: HX)) (fun _ => True) ?_ ?_)))))))))
 ·refine TE_dec (fun hf3 => ?_) (fun hf3 => ?_)
  ·refine TE_gq rfl rfl rfl rfl (RD.fieldAddr (o := 36) runUnderlying48 rfl rfl sizeOf46 rfl) rfl (TE_gq rfl rfl rfl rfl (RD.fieldAddr (o := 37) runUnderlying46 rfl rfl sizeOf36 rfl) rfl (ql rfl (RD.loadA (i := 0) (v := idV x.tg.id) isAgg36 sizeOf36 rfl rfl (Nat.le_of_ble_eq_true rfl) (obj_tg_id _ _ _ _)) (cG rfl call92 (fun w hw => c_r7Zero x.tg.id w  hw.s) ?_)))
   rintro v4 H5 ⟨rfl, rfl⟩ -
   exact qT rfl (qa rfl (n0 (pn_give () trivial ⟨rfl, rfl, congrArg (fun b => some (Value.bool b)) (by first | (simp [hf3]; done) | (simp only [decide_eq_true hf3]; rfl) | (simp only [decide_eq_true hf3]; simp; done)), trivial⟩ sb)))
  ·exact qs rfl (qs rfl (qs rfl (qs rfl (qF rfl (qa rfl (n0 (pn_give () trivial ⟨rfl, rfl, congrArg (fun b => some (Value.bool b)) (by first | (simp [hf3]; done) | (simp only [decide_eq_false hf3]; rfl) | (simp only [decide_eq_false hf3]; simp; done)), trivial⟩ sb)))))))
 rintro _ -
 refine sq (pn_plain [2] rfl (qq rfl (RD.fieldAddr (o := 1) runUnderlying48 rfl rfl sizeOf32 rfl) (ql rfl (RD.load (i := 0) (v := xd) isAgg32 rfl rfl rfl) (qq rfl (RD.lenR runUnderlying32 rfl hbxd) (qq rfl (RD.gtr rfl rfl) (qa rfl (n0 (sq (pn_plain [2] rfl ?_)))))))))
 refine qq rfl (RD.fieldAddr (o := 2) runUnderlying48 rfl rfl sizeOf43 rfl) (ql rfl (RD.load (i := 0) (v := xe) isAgg43 rfl rfl rfl) (qq rfl (RD.lenX runUnderlying43 rfl hbxe) (qq rfl (RD.gtr rfl rfl) (qa rfl (n0 (sq (pn_plain [2] rfl (qq rfl (RD.fieldAddr (o := 69) runUnderlying48 rfl rfl sizeOf9 rfl) (ql rfl (RD.load (i := 0) (v := .string x.m) isAgg9 rfl rfl rfl) ?_)))))))))
 refine qq rfl (RD.len_string runUnderlying9 rfl) (qq rfl (RD.gtr rfl rfl) (qa rfl (n0 (sq (pn_plain [2] rfl (qq rfl (RD.fieldAddr (o := 35) runUnderlying48 rfl rfl sizeOf44 rfl) (ql rfl (RD.load (i := 0) (v := xp) isAgg44 rfl rfl rfl) (qq rfl (RD.lenX runUnderlying44 rfl hbxp) (qq rfl (RD.gtr rfl rfl) ?_)))))))))
 refine qm rfl (TE_join (σ := Unit) (fun _ => [(1, .pointer (some ⟨b1, 0, none⟩)), (4, .bool ((decide (x.tg.k = 0)) && (idZ x.tg.id))), (5, .bool (decide (0 < (x.data.length : Int)))), (6, .bool (decide (0 < (x.ents.length : Int)))), (7, .bool (decide (0 < (x.m.size : Int)))), (8, .bool ((decide (0 < (x.pars.length : Int))) || (!(idZ x.t))))]) (fun _ => ((b1, .cells (objV x xd xe xp).cells 48 (0, 0)) :: HX)) (fun _ => True) ?_ ?_)
 ·refine TE_dec (fun hf6 => ?_) (fun hf6 => ?_)
  ·exact qs rfl (qs rfl (qT rfl (qa rfl (n0 (pn_give () trivial ⟨rfl, rfl, rfl, rfl, rfl, congrArg (fun b => some (Value.bool b)) (by first | (simp [hf6]; done) | (simp only [decide_eq_true hf6]; rfl) | (simp only [decide_eq_true hf6]; simp; done)), trivial⟩ sb)))))
  ·exact qg rfl (TE_gq rfl rfl rfl rfl (RD.not rfl) rfl (qF rfl (qa rfl (n0 (pn_give () trivial ⟨rfl, rfl, rfl, rfl, rfl, congrArg (fun b => some (Value.bool b)) (by first | (simp [hf6]; done) | (simp only [decide_eq_false hf6]; rfl) | (simp only [decide_eq_false hf6]; simp; done)), trivial⟩ sb)))))
 rintro _ -
 refine sq (pl (qa rfl (n0 (sq (sq (pl (qq rfl (RD.fieldAddr (o := 0) runUnderlying48 rfl rfl sizeOf3 rfl) (ql rfl (RD.load (i := 0) (v := .int .i64 x.k) isAgg3 rfl rfl rfl) (n0 ?_)))))))))
 refine pn_block (sq (pl (qq rfl (RD.eql rfl rfl) (qa rfl (n0 (pn_condD rfl (fun hc7 => ?_) (fun hc7 => ?_)))))))
 ·refine pn_plain [2] rfl (qq rfl (RD.fieldAddr (o := 1) runUnderlying48 rfl rfl sizeOf32 rfl) (ql rfl (RD.load (i := 0) (v := xd) isAgg32 rfl rfl rfl) (qq rfl (RD.lenR runUnderlying32 rfl hbxd) (qq rfl (RD.leq rfl rfl) (qm rfl (TE_join (σ := Unit) (fun _ => [(9, .bool ((decide ((x.data.length : Int) ≤ 1024)) && ((!decide (0 < (x.ents.length : Int))) && ((!((decide (0 < (x.pars.length : Int))) || (!(idZ x.t)))) && ((!decide (0 < (x.m.size : Int))) && ((decide (x.tg.k = 0)) && (idZ x.tg.id)))))))]) (fun _ => ((b1, .cells (objV x xd xe xp).cells 48 (0, 0)) :: HX)) (fun _ => True) ?_ ?_))))))
  ·refine TE_dec (fun hf8 => ?_) (fun hf8 => ?_)
   ·refine qg rfl (TE_gq rfl rfl rfl rfl (RD.not rfl) rfl (qT rfl (qm rfl (TE_ndec (fun hf9 => ?_) (fun hf9 => ?_)))))
    ·refine qg rfl (TE_gq rfl rfl rfl rfl (RD.not rfl) rfl (qT rfl (qm rfl (TE_bool (fun hf10 => ?_) (fun hf10 => ?_)))))
     ·refine qg rfl (TE_gq rfl rfl rfl rfl (RD.not rfl) rfl (qT rfl (qm rfl (TE_ndec (fun hf11 => ?_) (fun hf11 => ?_)))))
      ·exact qg rfl (qT rfl (qa rfl (n0 (pn_give () trivial ⟨congrArg (fun b => some (Value.bool b)) (by first | (simp [hf8, hf9, hf10, hf11]; done) | (simp only [decide_eq_true hf8, decide_eq_false hf9, hf10, decide_eq_false hf11]; rfl) | (simp only [decide_eq_true hf8, decide_eq_false hf9, hf10, decide_eq_false hf11]; simp; done)), trivial⟩ sb))))
      ·exact qs rfl (qF rfl (qa rfl (n0 (pn_give () trivial ⟨congrArg (fun b => some (Value.bool b)) (by first | (simp [hf8, hf9, hf10, hf11]; done) | (simp only [decide_eq_true hf8, decide_eq_false hf9, hf10, decide_eq_true hf11]; rfl) | (simp only [decide_eq_true hf8, decide_eq_false hf9, hf10, decide_eq_true hf11]; simp; done)), trivial⟩ sb))))
     ·exact qs rfl (qs rfl (qF rfl (qm rfl (qs rfl (qF rfl (qa rfl (n0 (pn_give () trivial ⟨congrArg (fun b => some (Value.bool b)) (by first | (simp [hf8, hf9, hf10]; done) | (simp only [decide_eq_true hf8, decide_eq_false hf9, hf10]; rfl) | (simp only [decide_eq_true hf8, decide_eq_false hf9, hf10]; simp; done)), trivial⟩ sb))))))))
    ·refine qs rfl (qs rfl (qF rfl (qm rfl (qs rfl (qs rfl (qF rfl (qm rfl (qs rfl (qF rfl ?_)))))))))
     exact qa rfl (n0 (pn_give () trivial ⟨congrArg (fun b => some (Value.bool b)) (by first | (simp [hf8, hf9]; done) | (simp only [decide_eq_true hf8, decide_eq_true hf9]; rfl) | (simp only [decide_eq_true hf8, decide_eq_true hf9]; simp; done)), trivial⟩ sb))
   ·refine qs rfl (qs rfl (qF rfl (qm rfl (qs rfl (qs rfl (qF rfl (qm rfl (qs rfl (qs rfl ?_)))))))))
    exact qF rfl (qm rfl (qs rfl (qF rfl (qa rfl (n0 (pn_give () trivial ⟨congrArg (fun b => some (Value.bool b)) (by first | (simp [hf8]; done) | (simp only [decide_eq_false hf8]; rfl) | (simp only [decide_eq_false hf8]; simp; done)), trivial⟩ sb))))))
  rintro _ -
  refine sq (sq (plG [] [] (qm rfl (n0 (pn_cond rfl (fun hc12 => ?_) (fun hc12 => ?_))))))
  ·exact sq (pl (qa rfl (n0 (rt (pn_doneS [] rfl rfl ⟨(congrArg (Value.int .i64) (chkT (chk1 hc7) hc12)), rfl⟩ (fun _ => Nat.zero_le _) (fun _ he => nomatch he))))))
  ·exact sk (sq (pl (qa rfl (n0 (rt (pn_doneS [] rfl rfl ⟨(congrArg (Value.int .i64) (chkF (chk1 hc7) hc12)), rfl⟩ (fun _ => Nat.zero_le _) (fun _ he => nomatch he)))))))
 ·refine sq (pl (qq rfl (RD.eql rfl rfl) (qa rfl (n0 (pn_condD rfl (fun hc13 => ?_) (fun hc13 => ?_))))))
  ·refine pl (qq rfl (RD.fieldAddr (o := 2) runUnderlying48 rfl rfl sizeOf43 rfl) (ql rfl (RD.load (i := 0) (v := xe) isAgg43 rfl rfl rfl) (cG rfl call93 (fun w hw => c_r7entries xe x.ents HX w hbxe.s (by first | assumption | omega | (simp; done) | (simp; omega)) (by first | assumption | omega | (intro x hx; simp_all)) hw.s) ?_)))
   rintro v14 H15 ⟨rfl, rfl⟩ -
   refine qm rfl (TE_join (σ := Unit) (fun _ => [(9, .bool ((treeB x.ents) && ((!decide (0 < (x.data.length : Int))) && ((!((decide (0 < (x.pars.length : Int))) || (!(idZ x.t)))) && ((!decide (0 < (x.m.size : Int))) && ((decide (x.tg.k = 0)) && (idZ x.tg.id)))))))]) (fun _ => ((b1, .cells (objV x xd xe xp).cells 48 (0, 0)) :: HX)) (fun _ => True) ?_ ?_)
   ·refine TE_bool (fun hf16 => ?_) (fun hf16 => ?_)
    ·refine qg rfl (TE_gq rfl rfl rfl rfl (RD.not rfl) rfl (qT rfl (qm rfl (TE_ndec (fun hf17 => ?_) (fun hf17 => ?_)))))
     ·refine qg rfl (TE_gq rfl rfl rfl rfl (RD.not rfl) rfl (qT rfl (qm rfl (TE_bool (fun hf18 => ?_) (fun hf18 => ?_)))))
      ·refine qg rfl (TE_gq rfl rfl rfl rfl (RD.not rfl) rfl (qT rfl (qm rfl (TE_ndec (fun hf19 => ?_) (fun hf19 => ?_)))))
       ·exact qg rfl (qT rfl (qa rfl (n0 (pn_give () trivial ⟨congrArg (fun b => some (Value.bool b)) (by first | (simp [hf16, hf17, hf18, hf19]; done) | (simp only [hf16, decide_eq_false hf17, hf18, decide_eq_false hf19]; rfl) | (simp only [hf16, decide_eq_false hf17, hf18, decide_eq_false hf19]; simp; done)), trivial⟩ sb))))
       ·exact qs rfl (qF rfl (qa rfl (n0 (pn_give () trivial ⟨congrArg (fun b => some (Value.bool b)) (by first | (simp [hf16, hf17, hf18, hf19]; done) | (simp only [hf16, decide_eq_false hf17, hf18, decide_eq_true hf19]; rfl) | (simp only [hf16, decide_eq_false hf17, hf18, decide_eq_true hf19]; simp; done)), trivial⟩ sb))))
      ·exact qs rfl (qs rfl (qF rfl (qm rfl (qs rfl (qF rfl (qa rfl (n0 (pn_give () trivial ⟨congrArg (fun b => some (Value.bool b)) (by first | (simp [hf16, hf17, hf18]; done) | (simp only [hf16, decide_eq_false hf17, hf18]; rfl) | (simp only [hf16, decide_eq_false hf17, hf18]; simp; done)), trivial⟩ sb))))))))
     ·refine qs rfl (qs rfl (qF rfl (qm rfl (qs rfl (qs rfl (qF rfl (qm rfl (qs rfl (qF rfl ?_)))))))))
      exact qa rfl (n0 (pn_give () trivial ⟨congrArg (fun b => some (Value.bool b)) (by first | (simp [hf16, hf17]; done) | (simp only [hf16, decide_eq_true hf17]; rfl) | (simp only [hf16, decide_eq_true hf17]; simp; done)), trivial⟩ sb))
    ·refine qs rfl (qs rfl (qF rfl (qm rfl (qs rfl (qs rfl (qF rfl (qm rfl (qs rfl (qs rfl ?_)))))))))
     exact qF rfl (qm rfl (qs rfl (qF rfl (qa rfl (n0 (pn_give () trivial ⟨congrArg (fun b => some (Value.bool b)) (by first | (simp [hf16]; done) | (simp only [hf16]; rfl) | (simp only [hf16]; simp; done)), trivial⟩ sb))))))
   rintro _ -
   refine sq (sq (plG [] [] (qm rfl (n0 (pn_cond rfl (fun hc20 => ?_) (fun hc20 => ?_))))))
   ·exact sq (pl (qa rfl (n0 (rt (pn_doneS [] rfl rfl ⟨(congrArg (Value.int .i64) (chkT (chk2 hc13) hc20)), rfl⟩ (fun _ => Nat.zero_le _) (fun _ he => nomatch he))))))
   ·exact sk (sq (pl (qa rfl (n0 (rt (pn_doneS [] rfl rfl ⟨(congrArg (Value.int .i64) (chkF (chk2 hc13) hc20)), rfl⟩ (fun _ => Nat.zero_le _) (fun _ he => nomatch he)))))))
  ·refine sq (pl (qq rfl (RD.eql rfl rfl) (qa rfl (n0 (pn_condD rfl (fun hc21 => ?_) (fun hc21 => ?_))))))
   ·refine pn_plain [6] rfl (qq rfl (RD.fieldAddr (o := 35) runUnderlying48 rfl rfl sizeOf44 rfl) (ql rfl (RD.load (i := 0) (v := xp) isAgg44 rfl rfl rfl) (cG rfl call94 (fun w hw => c_r7parents xp x.pars HX w hbxp.s (by first | assumption | omega | (simp; done) | (simp; omega)) hw.s) ?_)))
    rintro v22 H23 ⟨rfl, rfl⟩ -
    refine qm rfl (TE_join (σ := Unit) (fun _ => [(9, .bool ((parsB x.pars) && ((decide ((x.m.size : Int) ≤ 200)) && ((!decide (0 < (x.data.length : Int))) && ((!decide (0 < (x.ents.length : Int))) && ((decide (x.tg.k = 0)) && (idZ x.tg.id)))))))]) (fun _ => ((b1, .cells (objV x xd xe xp).cells 48 (0, 0)) :: HX)) (fun _ => True) ?_ ?_)
    ·refine TE_bool (fun hf24 => ?_) (fun hf24 => ?_)
     ·refine TE_gq rfl rfl rfl rfl (RD.fieldAddr (o := 69) runUnderlying48 rfl rfl sizeOf9 rfl) rfl (ql rfl (RD.load (i := 0) (v := .string x.m) isAgg9 rfl rfl rfl) (TE_gq rfl rfl rfl rfl (RD.len_string runUnderlying9 rfl) rfl (TE_gq rfl rfl rfl rfl (RD.leq rfl rfl) rfl (qT rfl (qm rfl (TE_dec (fun hf25 => ?_) (fun hf25 => ?_)))))))
      ·refine qg rfl (TE_gq rfl rfl rfl rfl (RD.not rfl) rfl (qT rfl (qm rfl (TE_ndec (fun hf26 => ?_) (fun hf26 => ?_)))))
       ·refine qg rfl (TE_gq rfl rfl rfl rfl (RD.not rfl) rfl (qT rfl (qm rfl (TE_ndec (fun hf27 => ?_) (fun hf27 => ?_)))))
        ·exact qg rfl (qT rfl (qa rfl (n0 (pn_give () trivial ⟨congrArg (fun b => some (Value.bool b)) (by first | (simp [hf24, hf25, hf26, hf27]; done) | (simp only [hf24, decide_eq_true hf25, decide_eq_false hf26, decide_eq_false hf27]; rfl) | (simp only [hf24, decide_eq_true hf25, decide_eq_false hf26, decide_eq_false hf27]; simp; done)), trivial⟩ sb))))
        ·exact qs rfl (qF rfl (qa rfl (n0 (pn_give () trivial ⟨congrArg (fun b => some (Value.bool b)) (by first | (simp [hf24, hf25, hf26, hf27]; done) | (simp only [hf24, decide_eq_true hf25, decide_eq_false hf26, decide_eq_true hf27]; rfl) | (simp only [hf24, decide_eq_true hf25, decide_eq_false hf26, decide_eq_true hf27]; simp; done)), trivial⟩ sb))))
       ·exact qs rfl (qs rfl (qF rfl (qm rfl (qs rfl (qF rfl (qa rfl (n0 (pn_give () trivial ⟨congrArg (fun b => some (Value.bool b)) (by first | (simp [hf24, hf25, hf26]; done) | (simp only [hf24, decide_eq_true hf25, decide_eq_true hf26]; rfl) | (simp only [hf24, decide_eq_true hf25, decide_eq_true hf26]; simp; done)), trivial⟩ sb))))))))
      ·refine qs rfl (qs rfl (qF rfl (qm rfl (qs rfl (qs rfl (qF rfl (qm rfl (qs rfl (qF rfl ?_)))))))))
       exact qa rfl (n0 (pn_give () trivial ⟨congrArg (fun b => some (Value.bool b)) (by first | (simp [hf24, hf25]; done) | (simp only [hf24, decide_eq_false hf25]; rfl) | (simp only [hf24, decide_eq_false hf25]; simp; done)), trivial⟩ sb))
     ·refine qs rfl (qs rfl (qs rfl (qs rfl (qF rfl (qm rfl (qs rfl (qs rfl (qF rfl (qm rfl ?_)))))))))
      exact qs rfl (qs rfl (qF rfl (qm rfl (qs rfl (qF rfl (qa rfl (n0 (pn_give () trivial ⟨congrArg (fun b => some (Value.bool b)) (by first | (simp [hf24]; done) | (simp only [hf24]; rfl) | (simp only [hf24]; simp; done)), trivial⟩ sb))))))))
    rintro _ -
    refine sq (sq (plG [] [] (qm rfl (n0 (pn_cond rfl (fun hc28 => ?_) (fun hc28 => ?_))))))
    ·exact sq (pl (qa rfl (n0 (rt (pn_doneS [] rfl rfl ⟨(congrArg (Value.int .i64) (chkT (chk3 hc21) hc28)), rfl⟩ (fun _ => Nat.zero_le _) (fun _ he => nomatch he))))))
    ·exact sk (sq (pl (qa rfl (n0 (rt (pn_doneS [] rfl rfl ⟨(congrArg (Value.int .i64) (chkF (chk3 hc21) hc28)), rfl⟩ (fun _ => Nat.zero_le _) (fun _ he => nomatch he)))))))
   ·refine sq (pl (qq rfl (RD.eql rfl rfl) (qa rfl (n0 (pn_condD rfl (fun hc29 => ?_) (fun hc29 => ?_))))))
    ·refine pn_plain [13] rfl (qq rfl (RD.fieldAddr (o := 36) runUnderlying48 rfl rfl sizeOf46 rfl) (qq rfl (RD.fieldAddr (o := 36) runUnderlying46 rfl rfl sizeOf3 rfl) (ql rfl (RD.load (i := 0) (v := .int .i64 x.tg.k) isAgg3 rfl rfl rfl) (qq rfl (RD.geq rfl rfl) (qm rfl (TE_join (σ := Unit) (fun _ => [(9, .bool ((decide (1 ≤ x.tg.k)) && ((decide (x.tg.k ≤ 4)) && ((decide ((x.m.size : Int) ≤ 200)) && ((!decide (0 < (x.data.length : Int))) && ((!decide (0 < (x.ents.length : Int))) && (!((decide (0 < (x.pars.length : Int))) || (!(idZ x.t))))))))))]) (fun _ => ((b1, .cells (objV x xd xe xp).cells 48 (0, 0)) :: HX)) (fun _ => True) ?_ ?_))))))
     ·refine TE_dec (fun hf30 => ?_) (fun hf30 => ?_)
      ·refine TE_gq rfl rfl rfl rfl (RD.fieldAddr (o := 36) runUnderlying48 rfl rfl sizeOf46 rfl) rfl (TE_gq rfl rfl rfl rfl (RD.fieldAddr (o := 36) runUnderlying46 rfl rfl sizeOf3 rfl) rfl (ql rfl (RD.load (i := 0) (v := .int .i64 x.tg.k) isAgg3 rfl rfl rfl) (TE_gq rfl rfl rfl rfl (RD.leq rfl rfl) rfl (qT rfl (qm rfl (TE_dec (fun hf31 => ?_) (fun hf31 => ?_)))))))
       ·refine TE_gq rfl rfl rfl rfl (RD.fieldAddr (o := 69) runUnderlying48 rfl rfl sizeOf9 rfl) rfl (ql rfl (RD.load (i := 0) (v := .string x.m) isAgg9 rfl rfl rfl) (TE_gq rfl rfl rfl rfl (RD.len_string runUnderlying9 rfl) rfl (TE_gq rfl rfl rfl rfl (RD.leq rfl rfl) rfl (qT rfl (qm rfl (TE_dec (fun hf32 => ?_) (fun hf32 => ?_)))))))
        ·refine qg rfl (TE_gq rfl rfl rfl rfl (RD.not rfl) rfl (qT rfl (qm rfl (TE_ndec (fun hf33 => ?_) (fun hf33 => ?_)))))
         ·refine qg rfl (TE_gq rfl rfl rfl rfl (RD.not rfl) rfl (qT rfl (qm rfl (TE_ndec (fun hf34 => ?_) (fun hf34 => ?_)))))
          ·exact qg rfl (TE_gq rfl rfl rfl rfl (RD.not rfl) rfl (qT rfl (qa rfl (n0 (pn_give () trivial ⟨congrArg (fun b => some (Value.bool b)) (by first | (simp [hf30, hf31, hf32, hf33, hf34]; done) | (simp only [decide_eq_true hf30, decide_eq_true hf31, decide_eq_true hf32, decide_eq_false hf33, decide_eq_false hf34]; rfl) | (simp only [decide_eq_true hf30, decide_eq_true hf31, decide_eq_true hf32, decide_eq_false hf33, decide_eq_false hf34]; simp; done)), trivial⟩ sb)))))
          ·exact qs rfl (qs rfl (qF rfl (qa rfl (n0 (pn_give () trivial ⟨congrArg (fun b => some (Value.bool b)) (by first | (simp [hf30, hf31, hf32, hf33, hf34]; done) | (simp only [decide_eq_true hf30, decide_eq_true hf31, decide_eq_true hf32, decide_eq_false hf33, decide_eq_true hf34]; rfl) | (simp only [decide_eq_true hf30, decide_eq_true hf31, decide_eq_true hf32, decide_eq_false hf33, decide_eq_true hf34]; simp; done)), trivial⟩ sb)))))
         ·exact qs rfl (qs rfl (qF rfl (qm rfl (qs rfl (qs rfl (qF rfl (qa rfl (n0 (pn_give () trivial ⟨congrArg (fun b => some (Value.bool b)) (by first | (simp [hf30, hf31, hf32, hf33]; done) | (simp only [decide_eq_true hf30, decide_eq_true hf31, decide_eq_true hf32, decide_eq_true hf33]; rfl) | (simp only [decide_eq_true hf30, decide_eq_true hf31, decide_eq_true hf32, decide_eq_true hf33]; simp; done)), trivial⟩ sb)))))))))
        ·refine qs rfl (qs rfl (qF rfl (qm rfl (qs rfl (qs rfl (qF rfl (qm rfl (qs rfl (qs rfl ?_)))))))))
         exact qF rfl (qa rfl (n0 (pn_give () trivial ⟨congrArg (fun b => some (Value.bool b)) (by first | (simp [hf30, hf31, hf32]; done) | (simp only [decide_eq_true hf30, decide_eq_true hf31, decide_eq_false hf32]; rfl) | (simp only [decide_eq_true hf30, decide_eq_true hf31, decide_eq_false hf32]; simp; done)), trivial⟩ sb)))
       ·refine qs rfl (qs rfl (qs rfl (qs rfl (qF rfl (qm rfl (qs rfl (qs rfl (qF rfl (qm rfl ?_)))))))))
        exact qs rfl (qs rfl (qF rfl (qm rfl (qs rfl (qs rfl (qF rfl (qa rfl (n0 (pn_give () trivial ⟨congrArg (fun b => some (Value.bool b)) (by first | (simp [hf30, hf31]; done) | (simp only [decide_eq_true hf30, decide_eq_false hf31]; rfl) | (simp only [decide_eq_true hf30, decide_eq_false hf31]; simp; done)), trivial⟩ sb)))))))))
      ·refine qs rfl (qs rfl (qs rfl (qs rfl (qF rfl (qm rfl (qs rfl (qs rfl (qs rfl (qs rfl ?_)))))))))
       refine qF rfl (qm rfl (qs rfl (qs rfl (qF rfl (qm rfl (qs rfl (qs rfl (qF rfl (qm rfl ?_)))))))))
       exact qs rfl (qs rfl (qF rfl (qa rfl (n0 (pn_give () trivial ⟨congrArg (fun b => some (Value.bool b)) (by first | (simp [hf30]; done) | (simp only [decide_eq_false hf30]; rfl) | (simp only [decide_eq_false hf30]; simp; done)), trivial⟩ sb)))))
     rintro _ -
     refine sq (sq (plG [] [] (qm rfl (n0 (pn_cond rfl (fun hc35 => ?_) (fun hc35 => ?_))))))
     ·exact sq (pl (qa rfl (n0 (rt (pn_doneS [] rfl rfl ⟨(congrArg (Value.int .i64) (chkT (chk4 hc29) hc35)), rfl⟩ (fun _ => Nat.zero_le _) (fun _ he => nomatch he))))))
     ·exact sk (sq (pl (qa rfl (n0 (rt (pn_doneS [] rfl rfl ⟨(congrArg (Value.int .i64) (chkF (chk4 hc29) hc35)), rfl⟩ (fun _ => Nat.zero_le _) (fun _ he => nomatch he)))))))
    ·refine sk (sq (sq (plG [] [] (qm rfl (n0 (pn_condF rfl (sk (sq (pl ?_)))))))))
     exact qa rfl (n0 (rt (pn_doneS [] rfl rfl ⟨(congrArg (Value.int .i64) (chkF (chk0 hc7 hc13 hc21 hc29) rfl)), rfl⟩ (fun _ => Nat.zero_le _) (fun _ he => nomatch he))))
end Go.Proofs.YtmjmaloapafnlaaGreatDoor
