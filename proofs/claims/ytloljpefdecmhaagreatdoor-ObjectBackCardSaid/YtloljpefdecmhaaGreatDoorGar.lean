import Derived.Test.YtloljpefdecmhaaGreatDoorGaq
namespace Go.Proofs.YtloljpefdecmhaaGreatDoor
open Go Go.Mv
set_option maxRecDepth 8000
theorem okK1 {x : Ob} (hk : x.k = 1) : obOkB x = (decide ((x.data.length : Int) ≤ 1024) && obSame (⟨x.k, x.data, [], (fun _ => 0), [], (⟨0, (fun _ => 0)⟩ : Lnk), ⟨#[]⟩⟩ : Ob) x) := by
  rw [obOkB, mayB, bareOb, if_pos hk, if_pos hk]
  congr 1
  exact decide_eq_decide.2 (by omega)
theorem okK2 {x : Ob} (hk : x.k = 2) : obOkB x = (treeB x.ents && obSame (⟨x.k, [], x.ents, (fun _ => 0), [], (⟨0, (fun _ => 0)⟩ : Lnk), ⟨#[]⟩⟩ : Ob) x) := by
  have h1 : ¬ x.k = 1 := by omega
  rw [obOkB, mayB, bareOb, if_neg h1, if_neg h1, if_pos hk, if_pos hk]
  rfl
theorem okK3 {x : Ob} (hk : x.k = 3) : obOkB x = ((parsB x.pars && decide ((x.m.size : Int) ≤ 200)) && obSame (⟨x.k, [], [], x.t, x.pars, (⟨0, (fun _ => 0)⟩ : Lnk), x.m⟩ : Ob) x) := by
  have h1 : ¬ x.k = 1 := by omega
  have h2 : ¬ x.k = 2 := by omega
  rw [obOkB, mayB, bareOb, if_neg h1, if_neg h1, if_neg h2, if_neg h2, if_pos hk, if_pos hk]
  congr 1
  congr 1
  exact decide_eq_decide.2 (by omega)
theorem okK4 {x : Ob} (hk : x.k = 4) : obOkB x = (((decide (1 ≤ x.tg.k) && decide (x.tg.k ≤ 4)) && decide ((x.m.size : Int) ≤ 200)) && obSame (⟨x.k, [], [], (fun _ => 0), [], x.tg, x.m⟩ : Ob) x) := by
  have h1 : ¬ x.k = 1 := by omega
  have h2 : ¬ x.k = 2 := by omega
  have h3 : ¬ x.k = 3 := by omega
  rw [obOkB, mayB, bareOb, if_neg h1, if_neg h1, if_neg h2, if_neg h2, if_neg h3, if_neg h3, if_pos hk]
  congr 1
  congr 1
  exact decide_eq_decide.2 (by omega)
theorem chkE_F {x : Ob} {m s e : Bool} (h : obOkB x = (m && s)) (he : e = (!m || !s)) (hc : e = true) : (70 : Int) = err (obOkB x) 70 := by
  rw [h]; rw [he] at hc; revert hc; cases m <;> cases s <;> first | exact fun _ => rfl | exact fun h => by cases h
theorem chkE_T {x : Ob} {m s e : Bool} (h : obOkB x = (m && s)) (he : e = (!m || !s)) (hc : e = false) : (0 : Int) = err (obOkB x) 70 := by
  rw [h]; rw [he] at hc; revert hc; cases m <;> cases s <;> first | exact fun _ => rfl | exact fun h => by cases h

theorem c_obCheck (x : Ob) (xd : Value) (xe : Value) (xp : Value) (HX : Mem) (w : World) (hbxd : Rdb HX xd x.data) (hbxe : Rdx 34 (entC) HX xe x.ents) (hbxp : Rdx 32 (idC) HX xp x.pars) (hox : ObOk x) (hH : Hp HX w) : Calls Tryz.prog 33 #[objV x xd xe xp] w (Ret w [] fun v H1 => v = .int .i64 (err (obOkB x) 70) ∧ H1 = []) := by
  have hw1 := hox.d; have hw2 := hox.e; have hw3 := hox.p; have hw4 := hox.m; have hwe := hox.en
  refine fn_enter (args := [_]) Tryz.func33 rfl Tryz.ntmps33 rfl hH ?_
  refine pn_seq ?_
  refine pn_plain [] rfl ?_
  refine TE_boxC (objV x xd xe xp).cells rfl rfl rfl trivial rfl fun b1 hb1 => ?_
  refine TE_q rfl rfl (RD.assign rfl) rfl ?_
  refine TE_nil0 ?_
  refine pn_seq ?_
  refine pn_plain [] rfl ?_
  refine TE_l rfl rfl trivial rfl (RD.loadA (i := 0) Tryz.isAgg48 Tryz.sizeOf48 rfl rfl (Nat.le_of_ble_eq_true rfl) (obj_all _ _ _ _)) rfl ?_
  refine TE_callG _ HX rfl rfl trivial Tryz.call61 rfl rfl rfl (fun w hw => c_of7 x xd xe xp HX w (hbxd.mono (fun _ hw => hw.sp (fun a => by simp -failIfUnchanged <;> omega))) (hbxe.mono (fun _ hw => hw.sp (fun a => by simp -failIfUnchanged <;> omega))) (hbxp.mono (fun _ hw => hw.sp (fun a => by simp -failIfUnchanged <;> omega))) hox (hw.sp (fun a => by simp -failIfUnchanged <;> omega))) (fun a => by simp -failIfUnchanged <;> omega) ?_
  rintro v9 H10 (⟨hk1, rfl, rfl⟩ | ⟨hk2, rfl, rfl⟩ | ⟨hk3, rfl, rfl⟩ | ⟨hk4, rfl, rfl⟩ | ⟨⟨⟨⟨hk5, hk6⟩, hk7⟩, hk8⟩, rfl, rfl⟩) hX11
  · refine TE_q rfl rfl (RD.move rfl) rfl ?_
    refine TE_q rfl rfl (RD.extract rfl rfl) rfl ?_
    refine TE_q rfl rfl (RD.extract rfl rfl) rfl ?_
    refine TE_q rfl rfl (RD.assign rfl) rfl ?_
    refine TE_q rfl rfl (RD.assign rfl) rfl ?_
    refine TE_nil0 ?_
    refine pn_seq ?_
    refine pn_seq ?_
    refine pn_drawG [10] [] ((b1, .cells (objV x xd xe xp).cells 48 (0, 0)) :: HX) rfl rfl (by kernel_rfl) (fun a => by simp -failIfUnchanged <;> omega) ?_
    refine TE_q rfl rfl (RD.move rfl) rfl ?_
    refine TE_q rfl rfl (RD.as (v := .bool false) (RD.not rfl) rfl) rfl ?_
    refine TE_q rfl rfl (RD.move rfl) rfl ?_
    refine TE_gq rfl rfl rfl rfl (RD.move rfl) rfl ?_
    refine TE_invM _ [] [] HX inv_blob_may rfl rfl ⟨_, rfl, rfl⟩ rfl rfl rfl own0 (fun a => by simp -failIfUnchanged <;> omega) (fun w hw => c_blobMay x xd xe xp HX w (hbxd.mono (fun _ hw => hw.sp (fun a => by simp -failIfUnchanged <;> omega))) (hbxe.mono (fun _ hw => hw.sp (fun a => by simp -failIfUnchanged <;> omega))) (hbxp.mono (fun _ hw => hw.sp (fun a => by simp -failIfUnchanged <;> omega))) hox (hw.sp (fun a => by simp -failIfUnchanged <;> omega))) (fun a => by simp -failIfUnchanged <;> omega) ?_
    rintro v12 H13 ⟨rfl, rfl⟩ -
    refine TE_sp [] (fun a => by simp -failIfUnchanged <;> omega) ?_
    refine TE_gq rfl rfl rfl rfl (RD.not rfl) rfl ?_
    refine TE_q rfl rfl (RD.pickF rfl rfl) rfl ?_
    refine TE_q rfl rfl (RD.move rfl) rfl ?_
    refine TE_join (σ := Unit) (fun _ => [(23, .bool ((!decide ((x.data.length : Int) ≤ 1024)) || (!(obSame (⟨x.k, x.data, [], (fun _ => 0), [], (⟨0, (fun _ => 0)⟩ : Lnk), ⟨#[]⟩⟩ : Ob) x))))]) (fun _ => ((b1, .cells (objV x xd xe xp).cells 48 (0, 0)) :: HX)) (fun _ => True) ?_ ?_
    · refine TE_ndec (fun hf14 => ?_) (fun hf14 => ?_)
      · refine TE_s rfl rfl rfl rfl rfl ?_
        refine TE_s rfl rfl rfl rfl rfl ?_
        refine TE_s rfl rfl rfl rfl rfl ?_
        refine TE_s rfl rfl rfl rfl rfl ?_
        refine TE_s rfl rfl rfl rfl rfl ?_
        refine TE_q rfl rfl (RD.pickT rfl rfl) rfl ?_
        refine TE_nil ?_
        exact pn_give () trivial ⟨congrArg (fun b => some (Value.bool b)) (by first | (simp [hf14]; done) | (simp only [decide_eq_false hf14]; rfl) | (simp only [decide_eq_false hf14]; simp; done)), trivial⟩ (fun _ hw => hw.sp (fun a => by simp -failIfUnchanged <;> omega))
      · refine TE_gq rfl rfl rfl rfl (RD.move rfl) rfl ?_
        refine TE_invM _ [] [] HX inv_blob_bare rfl rfl ⟨_, rfl, rfl⟩ rfl rfl rfl own0 (fun a => by simp -failIfUnchanged <;> omega) (fun w hw => c_blobBare x xd xe xp HX w (hbxd.mono (fun _ hw => hw.sp (fun a => by simp -failIfUnchanged <;> omega))) (hbxe.mono (fun _ hw => hw.sp (fun a => by simp -failIfUnchanged <;> omega))) (hbxp.mono (fun _ hw => hw.sp (fun a => by simp -failIfUnchanged <;> omega))) hox (hw.sp (fun a => by simp -failIfUnchanged <;> omega))) (fun a => by simp -failIfUnchanged <;> omega) ?_
        rintro v15 H16 ⟨rfl, rfl⟩ -
        refine TE_sp [] (fun a => by simp -failIfUnchanged <;> omega) ?_
        refine TE_gq rfl rfl rfl rfl (RD.loadA (i := 0) Tryz.isAgg48 Tryz.sizeOf48 rfl rfl (Nat.le_of_ble_eq_true rfl) (obj_all _ _ _ _)) rfl ?_
        refine TE_callG _ HX rfl rfl ⟨_, rfl, rfl⟩ Tryz.call36 rfl rfl rfl (fun w hw => c_obSame (⟨x.k, x.data, [], (fun _ => 0), [], (⟨0, (fun _ => 0)⟩ : Lnk), ⟨#[]⟩⟩ : Ob) xd (.slice none 0 0) (.slice none 0 0) x xd xe xp HX w (hbxd.mono (fun _ hw => hw.sp (fun a => by simp -failIfUnchanged <;> omega))) Rdx.nil Rdx.nil (hbxd.mono (fun _ hw => hw.sp (fun a => by simp -failIfUnchanged <;> omega))) (hbxe.mono (fun _ hw => hw.sp (fun a => by simp -failIfUnchanged <;> omega))) (hbxp.mono (fun _ hw => hw.sp (fun a => by simp -failIfUnchanged <;> omega))) ⟨(by first | omega | (dsimp only [List.length_nil]; omega) | simp), (by first | omega | (dsimp only [List.length_nil]; omega) | simp)⟩ ⟨(by first | omega | (dsimp only [List.length_nil]; omega) | simp), (by first | omega | (dsimp only [List.length_nil]; omega) | simp)⟩ (hw.sp (fun a => by simp -failIfUnchanged <;> omega))) (fun a => by simp -failIfUnchanged <;> omega) ?_
        rintro v17 H18 ⟨rfl, rfl⟩ -
        refine TE_gq rfl rfl rfl rfl (RD.not rfl) rfl ?_
        refine TE_q rfl rfl (RD.pickF rfl rfl) rfl ?_
        refine TE_nil ?_
        exact pn_give () trivial ⟨congrArg (fun b => some (Value.bool b)) (by first | (simp [hf14]; done) | (simp only [decide_eq_true hf14]; rfl) | (simp only [decide_eq_true hf14]; simp; done)), trivial⟩ (fun _ hw => hw.sp (fun a => by simp -failIfUnchanged <;> omega))
    rintro _ -
    refine pn_cond rfl (fun hc19 => ?_) (fun hc19 => ?_)
    · refine pn_seq ?_
      refine pn_plainG [] [] rfl (fun a => by simp -failIfUnchanged <;> omega) ?_
      refine TE_q rfl rfl (RD.assign rfl) rfl ?_
      refine TE_nil0 ?_
      refine pn_ret ?_
      exact pn_doneS [] rfl rfl ⟨(congrArg (Value.int .i64) (chkE_F (okK1 hk1) rfl hc19)), rfl⟩ (fun _ => Nat.zero_le _) (fun _ he => nomatch he)
    · refine pn_skip ?_
      refine pn_seq ?_
      refine pn_plainG [] [] rfl (fun a => by simp -failIfUnchanged <;> omega) ?_
      refine TE_q rfl rfl (RD.assign rfl) rfl ?_
      refine TE_nil0 ?_
      refine pn_ret ?_
      exact pn_doneS [] rfl rfl ⟨(congrArg (Value.int .i64) (chkE_T (okK1 hk1) rfl hc19)), rfl⟩ (fun _ => Nat.zero_le _) (fun _ he => nomatch he)
  · refine TE_q rfl rfl (RD.move rfl) rfl ?_
    refine TE_q rfl rfl (RD.extract rfl rfl) rfl ?_
    refine TE_q rfl rfl (RD.extract rfl rfl) rfl ?_
    refine TE_q rfl rfl (RD.assign rfl) rfl ?_
    refine TE_q rfl rfl (RD.assign rfl) rfl ?_
    refine TE_nil0 ?_
    refine pn_seq ?_
    refine pn_seq ?_
    refine pn_drawG [10] [] ((b1, .cells (objV x xd xe xp).cells 48 (0, 0)) :: HX) rfl rfl (by kernel_rfl) (fun a => by simp -failIfUnchanged <;> omega) ?_
    refine TE_q rfl rfl (RD.move rfl) rfl ?_
    refine TE_q rfl rfl (RD.as (v := .bool false) (RD.not rfl) rfl) rfl ?_
    refine TE_q rfl rfl (RD.move rfl) rfl ?_
    refine TE_gq rfl rfl rfl rfl (RD.move rfl) rfl ?_
    refine TE_invM _ [] [] HX inv_tree_may rfl rfl ⟨_, rfl, rfl⟩ rfl rfl rfl own0 (fun a => by simp -failIfUnchanged <;> omega) (fun w hw => c_treeMay x xd xe xp HX w (hbxd.mono (fun _ hw => hw.sp (fun a => by simp -failIfUnchanged <;> omega))) (hbxe.mono (fun _ hw => hw.sp (fun a => by simp -failIfUnchanged <;> omega))) (hbxp.mono (fun _ hw => hw.sp (fun a => by simp -failIfUnchanged <;> omega))) hox (hw.sp (fun a => by simp -failIfUnchanged <;> omega))) (fun a => by simp -failIfUnchanged <;> omega) ?_
    rintro v20 H21 ⟨rfl, rfl⟩ -
    refine TE_sp [] (fun a => by simp -failIfUnchanged <;> omega) ?_
    refine TE_gq rfl rfl rfl rfl (RD.not rfl) rfl ?_
    refine TE_q rfl rfl (RD.pickF rfl rfl) rfl ?_
    refine TE_q rfl rfl (RD.move rfl) rfl ?_
    refine TE_join (σ := Unit) (fun _ => [(23, .bool ((!(treeB x.ents)) || (!(obSame (⟨x.k, [], x.ents, (fun _ => 0), [], (⟨0, (fun _ => 0)⟩ : Lnk), ⟨#[]⟩⟩ : Ob) x))))]) (fun _ => ((b1, .cells (objV x xd xe xp).cells 48 (0, 0)) :: HX)) (fun _ => True) ?_ ?_
    · refine TE_bool (fun hf22 => ?_) (fun hf22 => ?_)
      · refine TE_s rfl rfl rfl rfl rfl ?_
        refine TE_s rfl rfl rfl rfl rfl ?_
        refine TE_s rfl rfl rfl rfl rfl ?_
        refine TE_s rfl rfl rfl rfl rfl ?_
        refine TE_s rfl rfl rfl rfl rfl ?_
        refine TE_q rfl rfl (RD.pickT rfl rfl) rfl ?_
        refine TE_nil ?_
        exact pn_give () trivial ⟨congrArg (fun b => some (Value.bool b)) (by first | (simp [hf22]; done) | (simp only [hf22]; rfl) | (simp only [hf22]; simp; done)), trivial⟩ (fun _ hw => hw.sp (fun a => by simp -failIfUnchanged <;> omega))
      · refine TE_gq rfl rfl rfl rfl (RD.move rfl) rfl ?_
        refine TE_invM _ [] [] HX inv_tree_bare rfl rfl ⟨_, rfl, rfl⟩ rfl rfl rfl own0 (fun a => by simp -failIfUnchanged <;> omega) (fun w hw => c_treeBare x xd xe xp HX w (hbxd.mono (fun _ hw => hw.sp (fun a => by simp -failIfUnchanged <;> omega))) (hbxe.mono (fun _ hw => hw.sp (fun a => by simp -failIfUnchanged <;> omega))) (hbxp.mono (fun _ hw => hw.sp (fun a => by simp -failIfUnchanged <;> omega))) hox (hw.sp (fun a => by simp -failIfUnchanged <;> omega))) (fun a => by simp -failIfUnchanged <;> omega) ?_
        rintro v23 H24 ⟨rfl, rfl⟩ -
        refine TE_sp [] (fun a => by simp -failIfUnchanged <;> omega) ?_
        refine TE_gq rfl rfl rfl rfl (RD.loadA (i := 0) Tryz.isAgg48 Tryz.sizeOf48 rfl rfl (Nat.le_of_ble_eq_true rfl) (obj_all _ _ _ _)) rfl ?_
        refine TE_callG _ HX rfl rfl ⟨_, rfl, rfl⟩ Tryz.call36 rfl rfl rfl (fun w hw => c_obSame (⟨x.k, [], x.ents, (fun _ => 0), [], (⟨0, (fun _ => 0)⟩ : Lnk), ⟨#[]⟩⟩ : Ob) (.slice none 0 0) xe (.slice none 0 0) x xd xe xp HX w (.inl ⟨rfl, rfl⟩) (hbxe.mono (fun _ hw => hw.sp (fun a => by simp -failIfUnchanged <;> omega))) Rdx.nil (hbxd.mono (fun _ hw => hw.sp (fun a => by simp -failIfUnchanged <;> omega))) (hbxe.mono (fun _ hw => hw.sp (fun a => by simp -failIfUnchanged <;> omega))) (hbxp.mono (fun _ hw => hw.sp (fun a => by simp -failIfUnchanged <;> omega))) ⟨(by first | omega | (dsimp only [List.length_nil]; omega) | simp), (by first | omega | (dsimp only [List.length_nil]; omega) | simp)⟩ ⟨(by first | omega | (dsimp only [List.length_nil]; omega) | simp), (by first | omega | (dsimp only [List.length_nil]; omega) | simp)⟩ (hw.sp (fun a => by simp -failIfUnchanged <;> omega))) (fun a => by simp -failIfUnchanged <;> omega) ?_
        rintro v25 H26 ⟨rfl, rfl⟩ -
        refine TE_gq rfl rfl rfl rfl (RD.not rfl) rfl ?_
        refine TE_q rfl rfl (RD.pickF rfl rfl) rfl ?_
        refine TE_nil ?_
        exact pn_give () trivial ⟨congrArg (fun b => some (Value.bool b)) (by first | (simp [hf22]; done) | (simp only [hf22]; rfl) | (simp only [hf22]; simp; done)), trivial⟩ (fun _ hw => hw.sp (fun a => by simp -failIfUnchanged <;> omega))
    rintro _ -
    refine pn_cond rfl (fun hc27 => ?_) (fun hc27 => ?_)
    · refine pn_seq ?_
      refine pn_plainG [] [] rfl (fun a => by simp -failIfUnchanged <;> omega) ?_
      refine TE_q rfl rfl (RD.assign rfl) rfl ?_
      refine TE_nil0 ?_
      refine pn_ret ?_
      exact pn_doneS [] rfl rfl ⟨(congrArg (Value.int .i64) (chkE_F (okK2 hk2) rfl hc27)), rfl⟩ (fun _ => Nat.zero_le _) (fun _ he => nomatch he)
    · refine pn_skip ?_
      refine pn_seq ?_
      refine pn_plainG [] [] rfl (fun a => by simp -failIfUnchanged <;> omega) ?_
      refine TE_q rfl rfl (RD.assign rfl) rfl ?_
      refine TE_nil0 ?_
      refine pn_ret ?_
      exact pn_doneS [] rfl rfl ⟨(congrArg (Value.int .i64) (chkE_T (okK2 hk2) rfl hc27)), rfl⟩ (fun _ => Nat.zero_le _) (fun _ he => nomatch he)
  · refine TE_q rfl rfl (RD.move rfl) rfl ?_
    refine TE_q rfl rfl (RD.extract rfl rfl) rfl ?_
    refine TE_q rfl rfl (RD.extract rfl rfl) rfl ?_
    refine TE_q rfl rfl (RD.assign rfl) rfl ?_
    refine TE_q rfl rfl (RD.assign rfl) rfl ?_
    refine TE_nil0 ?_
    refine pn_seq ?_
    refine pn_seq ?_
    refine pn_drawG [10] [] ((b1, .cells (objV x xd xe xp).cells 48 (0, 0)) :: HX) rfl rfl (by kernel_rfl) (fun a => by simp -failIfUnchanged <;> omega) ?_
    refine TE_q rfl rfl (RD.move rfl) rfl ?_
    refine TE_q rfl rfl (RD.as (v := .bool false) (RD.not rfl) rfl) rfl ?_
    refine TE_q rfl rfl (RD.move rfl) rfl ?_
    refine TE_gq rfl rfl rfl rfl (RD.move rfl) rfl ?_
    refine TE_invM _ [] [] HX inv_commit_may rfl rfl ⟨_, rfl, rfl⟩ rfl rfl rfl own0 (fun a => by simp -failIfUnchanged <;> omega) (fun w hw => c_commitMay x xd xe xp HX w (hbxd.mono (fun _ hw => hw.sp (fun a => by simp -failIfUnchanged <;> omega))) (hbxe.mono (fun _ hw => hw.sp (fun a => by simp -failIfUnchanged <;> omega))) (hbxp.mono (fun _ hw => hw.sp (fun a => by simp -failIfUnchanged <;> omega))) hox (hw.sp (fun a => by simp -failIfUnchanged <;> omega))) (fun a => by simp -failIfUnchanged <;> omega) ?_
    rintro v28 H29 ⟨rfl, rfl⟩ -
    refine TE_sp [] (fun a => by simp -failIfUnchanged <;> omega) ?_
    refine TE_gq rfl rfl rfl rfl (RD.not rfl) rfl ?_
    refine TE_q rfl rfl (RD.pickF rfl rfl) rfl ?_
    refine TE_q rfl rfl (RD.move rfl) rfl ?_
    refine TE_join (σ := Unit) (fun _ => [(23, .bool ((!((parsB x.pars) && (decide ((x.m.size : Int) ≤ 200)))) || (!(obSame (⟨x.k, [], [], x.t, x.pars, (⟨0, (fun _ => 0)⟩ : Lnk), x.m⟩ : Ob) x))))]) (fun _ => ((b1, .cells (objV x xd xe xp).cells 48 (0, 0)) :: HX)) (fun _ => True) ?_ ?_
    · refine TE_bool (fun hf30 => ?_) (fun hf30 => ?_)
      · refine TE_s rfl rfl rfl rfl rfl ?_
        refine TE_s rfl rfl rfl rfl rfl ?_
        refine TE_s rfl rfl rfl rfl rfl ?_
        refine TE_s rfl rfl rfl rfl rfl ?_
        refine TE_s rfl rfl rfl rfl rfl ?_
        refine TE_q rfl rfl (RD.pickT rfl rfl) rfl ?_
        refine TE_nil ?_
        exact pn_give () trivial ⟨congrArg (fun b => some (Value.bool b)) (by first | (simp [hf30]; done) | (simp only [hf30]; rfl) | (simp only [hf30]; simp; done)), trivial⟩ (fun _ hw => hw.sp (fun a => by simp -failIfUnchanged <;> omega))
      · refine TE_gq rfl rfl rfl rfl (RD.move rfl) rfl ?_
        refine TE_invM _ [] [] HX inv_commit_bare rfl rfl ⟨_, rfl, rfl⟩ rfl rfl rfl own0 (fun a => by simp -failIfUnchanged <;> omega) (fun w hw => c_commitBare x xd xe xp HX w (hbxd.mono (fun _ hw => hw.sp (fun a => by simp -failIfUnchanged <;> omega))) (hbxe.mono (fun _ hw => hw.sp (fun a => by simp -failIfUnchanged <;> omega))) (hbxp.mono (fun _ hw => hw.sp (fun a => by simp -failIfUnchanged <;> omega))) hox (hw.sp (fun a => by simp -failIfUnchanged <;> omega))) (fun a => by simp -failIfUnchanged <;> omega) ?_
        rintro v31 H32 ⟨rfl, rfl⟩ -
        refine TE_sp [] (fun a => by simp -failIfUnchanged <;> omega) ?_
        refine TE_gq rfl rfl rfl rfl (RD.loadA (i := 0) Tryz.isAgg48 Tryz.sizeOf48 rfl rfl (Nat.le_of_ble_eq_true rfl) (obj_all _ _ _ _)) rfl ?_
        refine TE_callG _ HX rfl rfl ⟨_, rfl, rfl⟩ Tryz.call36 rfl rfl rfl (fun w hw => c_obSame (⟨x.k, [], [], x.t, x.pars, (⟨0, (fun _ => 0)⟩ : Lnk), x.m⟩ : Ob) (.slice none 0 0) (.slice none 0 0) xp x xd xe xp HX w (.inl ⟨rfl, rfl⟩) Rdx.nil (hbxp.mono (fun _ hw => hw.sp (fun a => by simp -failIfUnchanged <;> omega))) (hbxd.mono (fun _ hw => hw.sp (fun a => by simp -failIfUnchanged <;> omega))) (hbxe.mono (fun _ hw => hw.sp (fun a => by simp -failIfUnchanged <;> omega))) (hbxp.mono (fun _ hw => hw.sp (fun a => by simp -failIfUnchanged <;> omega))) ⟨(by first | omega | (dsimp only [List.length_nil]; omega) | simp), (by first | omega | (dsimp only [List.length_nil]; omega) | simp)⟩ ⟨(by first | omega | (dsimp only [List.length_nil]; omega) | simp), (by first | omega | (dsimp only [List.length_nil]; omega) | simp)⟩ (hw.sp (fun a => by simp -failIfUnchanged <;> omega))) (fun a => by simp -failIfUnchanged <;> omega) ?_
        rintro v33 H34 ⟨rfl, rfl⟩ -
        refine TE_gq rfl rfl rfl rfl (RD.not rfl) rfl ?_
        refine TE_q rfl rfl (RD.pickF rfl rfl) rfl ?_
        refine TE_nil ?_
        exact pn_give () trivial ⟨congrArg (fun b => some (Value.bool b)) (by first | (simp [hf30]; done) | (simp only [hf30]; rfl) | (simp only [hf30]; simp; done)), trivial⟩ (fun _ hw => hw.sp (fun a => by simp -failIfUnchanged <;> omega))
    rintro _ -
    refine pn_cond rfl (fun hc35 => ?_) (fun hc35 => ?_)
    · refine pn_seq ?_
      refine pn_plainG [] [] rfl (fun a => by simp -failIfUnchanged <;> omega) ?_
      refine TE_q rfl rfl (RD.assign rfl) rfl ?_
      refine TE_nil0 ?_
      refine pn_ret ?_
      exact pn_doneS [] rfl rfl ⟨(congrArg (Value.int .i64) (chkE_F (okK3 hk3) rfl hc35)), rfl⟩ (fun _ => Nat.zero_le _) (fun _ he => nomatch he)
    · refine pn_skip ?_
      refine pn_seq ?_
      refine pn_plainG [] [] rfl (fun a => by simp -failIfUnchanged <;> omega) ?_
      refine TE_q rfl rfl (RD.assign rfl) rfl ?_
      refine TE_nil0 ?_
      refine pn_ret ?_
      exact pn_doneS [] rfl rfl ⟨(congrArg (Value.int .i64) (chkE_T (okK3 hk3) rfl hc35)), rfl⟩ (fun _ => Nat.zero_le _) (fun _ he => nomatch he)
  · refine TE_q rfl rfl (RD.move rfl) rfl ?_
    refine TE_q rfl rfl (RD.extract rfl rfl) rfl ?_
    refine TE_q rfl rfl (RD.extract rfl rfl) rfl ?_
    refine TE_q rfl rfl (RD.assign rfl) rfl ?_
    refine TE_q rfl rfl (RD.assign rfl) rfl ?_
    refine TE_nil0 ?_
    refine pn_seq ?_
    refine pn_seq ?_
    refine pn_drawG [10] [] ((b1, .cells (objV x xd xe xp).cells 48 (0, 0)) :: HX) rfl rfl (by kernel_rfl) (fun a => by simp -failIfUnchanged <;> omega) ?_
    refine TE_q rfl rfl (RD.move rfl) rfl ?_
    refine TE_q rfl rfl (RD.as (v := .bool false) (RD.not rfl) rfl) rfl ?_
    refine TE_q rfl rfl (RD.move rfl) rfl ?_
    refine TE_gq rfl rfl rfl rfl (RD.move rfl) rfl ?_
    refine TE_invM _ [] [] HX inv_tag_may rfl rfl ⟨_, rfl, rfl⟩ rfl rfl rfl own0 (fun a => by simp -failIfUnchanged <;> omega) (fun w hw => c_tagMay x xd xe xp HX w (hbxd.mono (fun _ hw => hw.sp (fun a => by simp -failIfUnchanged <;> omega))) (hbxe.mono (fun _ hw => hw.sp (fun a => by simp -failIfUnchanged <;> omega))) (hbxp.mono (fun _ hw => hw.sp (fun a => by simp -failIfUnchanged <;> omega))) hox (hw.sp (fun a => by simp -failIfUnchanged <;> omega))) (fun a => by simp -failIfUnchanged <;> omega) ?_
    rintro v36 H37 ⟨rfl, rfl⟩ -
    refine TE_sp [] (fun a => by simp -failIfUnchanged <;> omega) ?_
    refine TE_gq rfl rfl rfl rfl (RD.not rfl) rfl ?_
    refine TE_q rfl rfl (RD.pickF rfl rfl) rfl ?_
    refine TE_q rfl rfl (RD.move rfl) rfl ?_
    refine TE_join (σ := Unit) (fun _ => [(23, .bool ((!(((decide (1 ≤ x.tg.k)) && (decide (x.tg.k ≤ 4))) && (decide ((x.m.size : Int) ≤ 200)))) || (!(obSame (⟨x.k, [], [], (fun _ => 0), [], x.tg, x.m⟩ : Ob) x))))]) (fun _ => ((b1, .cells (objV x xd xe xp).cells 48 (0, 0)) :: HX)) (fun _ => True) ?_ ?_
    · refine TE_bool (fun hf38 => ?_) (fun hf38 => ?_)
      · refine TE_s rfl rfl rfl rfl rfl ?_
        refine TE_s rfl rfl rfl rfl rfl ?_
        refine TE_s rfl rfl rfl rfl rfl ?_
        refine TE_s rfl rfl rfl rfl rfl ?_
        refine TE_s rfl rfl rfl rfl rfl ?_
        refine TE_q rfl rfl (RD.pickT rfl rfl) rfl ?_
        refine TE_nil ?_
        exact pn_give () trivial ⟨congrArg (fun b => some (Value.bool b)) (by first | (simp [hf38]; done) | (simp only [hf38]; rfl) | (simp only [hf38]; simp; done)), trivial⟩ (fun _ hw => hw.sp (fun a => by simp -failIfUnchanged <;> omega))
      · refine TE_gq rfl rfl rfl rfl (RD.move rfl) rfl ?_
        refine TE_invM _ [] [] HX inv_tag_bare rfl rfl ⟨_, rfl, rfl⟩ rfl rfl rfl own0 (fun a => by simp -failIfUnchanged <;> omega) (fun w hw => c_tagBare x xd xe xp HX w (hbxd.mono (fun _ hw => hw.sp (fun a => by simp -failIfUnchanged <;> omega))) (hbxe.mono (fun _ hw => hw.sp (fun a => by simp -failIfUnchanged <;> omega))) (hbxp.mono (fun _ hw => hw.sp (fun a => by simp -failIfUnchanged <;> omega))) hox (hw.sp (fun a => by simp -failIfUnchanged <;> omega))) (fun a => by simp -failIfUnchanged <;> omega) ?_
        rintro v39 H40 ⟨rfl, rfl⟩ -
        refine TE_sp [] (fun a => by simp -failIfUnchanged <;> omega) ?_
        refine TE_gq rfl rfl rfl rfl (RD.loadA (i := 0) Tryz.isAgg48 Tryz.sizeOf48 rfl rfl (Nat.le_of_ble_eq_true rfl) (obj_all _ _ _ _)) rfl ?_
        refine TE_callG _ HX rfl rfl ⟨_, rfl, rfl⟩ Tryz.call36 rfl rfl rfl (fun w hw => c_obSame (⟨x.k, [], [], (fun _ => 0), [], x.tg, x.m⟩ : Ob) (.slice none 0 0) (.slice none 0 0) (.slice none 0 0) x xd xe xp HX w (.inl ⟨rfl, rfl⟩) Rdx.nil Rdx.nil (hbxd.mono (fun _ hw => hw.sp (fun a => by simp -failIfUnchanged <;> omega))) (hbxe.mono (fun _ hw => hw.sp (fun a => by simp -failIfUnchanged <;> omega))) (hbxp.mono (fun _ hw => hw.sp (fun a => by simp -failIfUnchanged <;> omega))) ⟨(by first | omega | (dsimp only [List.length_nil]; omega) | simp), (by first | omega | (dsimp only [List.length_nil]; omega) | simp)⟩ ⟨(by first | omega | (dsimp only [List.length_nil]; omega) | simp), (by first | omega | (dsimp only [List.length_nil]; omega) | simp)⟩ (hw.sp (fun a => by simp -failIfUnchanged <;> omega))) (fun a => by simp -failIfUnchanged <;> omega) ?_
        rintro v41 H42 ⟨rfl, rfl⟩ -
        refine TE_gq rfl rfl rfl rfl (RD.not rfl) rfl ?_
        refine TE_q rfl rfl (RD.pickF rfl rfl) rfl ?_
        refine TE_nil ?_
        exact pn_give () trivial ⟨congrArg (fun b => some (Value.bool b)) (by first | (simp [hf38]; done) | (simp only [hf38]; rfl) | (simp only [hf38]; simp; done)), trivial⟩ (fun _ hw => hw.sp (fun a => by simp -failIfUnchanged <;> omega))
    rintro _ -
    refine pn_cond rfl (fun hc43 => ?_) (fun hc43 => ?_)
    · refine pn_seq ?_
      refine pn_plainG [] [] rfl (fun a => by simp -failIfUnchanged <;> omega) ?_
      refine TE_q rfl rfl (RD.assign rfl) rfl ?_
      refine TE_nil0 ?_
      refine pn_ret ?_
      exact pn_doneS [] rfl rfl ⟨(congrArg (Value.int .i64) (chkE_F (okK4 hk4) rfl hc43)), rfl⟩ (fun _ => Nat.zero_le _) (fun _ he => nomatch he)
    · refine pn_skip ?_
      refine pn_seq ?_
      refine pn_plainG [] [] rfl (fun a => by simp -failIfUnchanged <;> omega) ?_
      refine TE_q rfl rfl (RD.assign rfl) rfl ?_
      refine TE_nil0 ?_
      refine pn_ret ?_
      exact pn_doneS [] rfl rfl ⟨(congrArg (Value.int .i64) (chkE_T (okK4 hk4) rfl hc43)), rfl⟩ (fun _ => Nat.zero_le _) (fun _ he => nomatch he)
  · refine TE_q rfl rfl (RD.move rfl) rfl ?_
    refine TE_q rfl rfl (RD.extract rfl rfl) rfl ?_
    refine TE_q rfl rfl (RD.extract rfl rfl) rfl ?_
    refine TE_q rfl rfl (RD.assign rfl) rfl ?_
    refine TE_q rfl rfl (RD.assign rfl) rfl ?_
    refine TE_nil0 ?_
    refine pn_seq ?_
    refine pn_seq ?_
    refine pn_drawG [10] [] ((b1, .cells (objV x xd xe xp).cells 48 (0, 0)) :: HX) rfl rfl (by kernel_rfl) (fun a => by simp -failIfUnchanged <;> omega) ?_
    refine TE_q rfl rfl (RD.move rfl) rfl ?_
    refine TE_q rfl rfl (RD.as (v := .bool true) (RD.not rfl) rfl) rfl ?_
    refine TE_q rfl rfl (RD.move rfl) rfl ?_
    refine TE_s rfl rfl rfl rfl rfl ?_
    refine TE_s rfl rfl rfl rfl rfl ?_
    refine TE_s rfl rfl rfl rfl rfl ?_
    refine TE_q rfl rfl (RD.pickT rfl rfl) rfl ?_
    refine TE_q rfl rfl (RD.move rfl) rfl ?_
    refine TE_s rfl rfl rfl rfl rfl ?_
    refine TE_s rfl rfl rfl rfl rfl ?_
    refine TE_s rfl rfl rfl rfl rfl ?_
    refine TE_s rfl rfl rfl rfl rfl ?_
    refine TE_s rfl rfl rfl rfl rfl ?_
    refine TE_q rfl rfl (RD.pickT rfl rfl) rfl ?_
    refine TE_nil ?_
    refine pn_condT rfl ?_
    refine pn_seq ?_
    refine pn_plainG [] [] rfl (fun a => by simp -failIfUnchanged <;> omega) ?_
    refine TE_q rfl rfl (RD.assign rfl) rfl ?_
    refine TE_nil0 ?_
    refine pn_ret ?_
    exact pn_doneS [] rfl rfl ⟨(congrArg (Value.int .i64) (chkF (chk0 hk5 hk6 hk7 hk8) rfl)), rfl⟩ (fun _ => Nat.zero_le _) (fun _ he => nomatch he)

end Go.Proofs.YtloljpefdecmhaaGreatDoor

namespace Go.Proofs.YtloljpefdecmhaaGreatDoor
open Go Go.Mv
set_option maxRecDepth 8000
attribute [simp] entsL_len parsL_len
def pf (P : List Lnk) : List (Nat → Int) → List Lnk
  | [] => P
  | p :: l => pf (P ++ [⟨3, p⟩]) l
@[simp] theorem pf_nil (P : List Lnk) : pf P [] = P := rfl
theorem pf_eq : ∀ (P : List Lnk) (l : List (Nat → Int)), pf P l = P ++ parsL l
  | P, [] => by simp
  | P, p :: l => by rw [pf, pf_eq]; simp [parsL]
@[simp] theorem pf_len (P : List Lnk) (l : List (Nat → Int)) : (pf P l).length = P.length + l.length := by rw [pf_eq]; simp
end Go.Proofs.YtloljpefdecmhaaGreatDoor

namespace Go.Proofs.YtloljpefdecmhaaGreatDoor
open Go Go.Mv
open Go.ChangeShapes
set_option maxRecDepth 100000
theorem obj_t_at (x : Ob) (d e p : Value) {j : Nat} (hj : j < 32) : (objV x d e p).cells[3 + j]? = some (.int .u8 (x.t j)) := by
  rcases lt32 hj with hj | ⟨k, hk, rfl⟩
  · rcases lt16 hj with rfl | rfl | rfl | rfl | rfl | rfl | rfl | rfl | rfl | rfl | rfl | rfl | rfl | rfl | rfl | rfl <;> rfl
  · rcases lt16 hk with rfl | rfl | rfl | rfl | rfl | rfl | rfl | rfl | rfl | rfl | rfl | rfl | rfl | rfl | rfl | rfl <;> rfl
theorem obj_g_at (x : Ob) (d e p : Value) {j : Nat} (hj : j < 32) : (objV x d e p).cells[37 + j]? = some (.int .u8 (x.tg.id j)) := by
  rcases lt32 hj with hj | ⟨k, hk, rfl⟩
  · rcases lt16 hj with rfl | rfl | rfl | rfl | rfl | rfl | rfl | rfl | rfl | rfl | rfl | rfl | rfl | rfl | rfl | rfl <;> rfl
  · rcases lt16 hk with rfl | rfl | rfl | rfl | rfl | rfl | rfl | rfl | rfl | rfl | rfl | rfl | rfl | rfl | rfl | rfl <;> rfl

theorem id_atC (f : Nat → Int) {j : Nat} (hj : j < 32) : (idC f)[j]? = some (.int .u8 (f j)) := by
  rcases lt32 hj with hj | ⟨k, hk, rfl⟩
  · rcases lt16 hj with rfl | rfl | rfl | rfl | rfl | rfl | rfl | rfl | rfl | rfl | rfl | rfl | rfl | rfl | rfl | rfl <;> rfl
  · rcases lt16 hk with rfl | rfl | rfl | rfl | rfl | rfl | rfl | rfl | rfl | rfl | rfl | rfl | rfl | rfl | rfl | rfl <;> rfl
theorem ent_atC (e : Ent) {j : Nat} (hj : j < 32) : (entC e)[2 + j]? = some (.int .u8 (e.id j)) := by
  rcases lt32 hj with hj | ⟨k, hk, rfl⟩
  · rcases lt16 hj with rfl | rfl | rfl | rfl | rfl | rfl | rfl | rfl | rfl | rfl | rfl | rfl | rfl | rfl | rfl | rfl <;> rfl
  · rcases lt16 hk with rfl | rfl | rfl | rfl | rfl | rfl | rfl | rfl | rfl | rfl | rfl | rfl | rfl | rfl | rfl | rfl <;> rfl
theorem cellsO_id : Tryz.prog.cellsOf 36 = 32 := by kernel_rfl
theorem cellsO_u8 : Tryz.prog.cellsOf 5 = 1 := by kernel_rfl
theorem cellsO_ent : Tryz.prog.cellsOf 97 = 34 := by kernel_rfl
theorem cellsO_lnk : Tryz.prog.cellsOf 46 = 33 := by kernel_rfl
theorem cellsO_obj : Tryz.prog.cellsOf 48 = 70 := by kernel_rfl
section
variable {H : Type} {enc : TypeId × Value → H} {w : World} {base : Nat} {spare : Nat → Bool} {held : Bool} {n : Nat} {cs : List Value} {x : DataW H × List MemPlace}
theorem open_byteT (h : DataW.trod enc Tryz.prog w base spare held n 5 cs = some x) : ∃ c, cs = byteC c ∧ True := by
  obtain ⟨z, rfl, _, hw⟩ := DataW.trod_int Tryz.underlying5 h
  have := has_u8 (wf_has hw)
  exact ⟨toB z, by rw [byteC, ← bcell_toB this.1 (by omega)], trivial⟩
def idOf (cs : List Value) : Nat → Int := fun i => bif Nat.blt i 32 then intAt cs.toArray i else 0
theorem idOf_can (cs : List Value) : IdCan (idOf cs) := fun i hi => by
  have : Nat.blt i 32 = false := by rw [← Bool.not_eq_true]; intro h; have := Nat.blt_eq ▸ h; omega
  simp only [idOf, this, cond_false]
theorem idOf_at {z : Int} {j : Nat} (hj : j < 32) (h : cs[j]? = some (.int .u8 z)) : idOf cs j = z := by
  have : Nat.blt j 32 = true := by simpa using hj
  simp only [idOf, this, cond_true, intAt, List.getElem?_toArray, h]
theorem open_idT (h : DataW.trod enc Tryz.prog w base spare held n 36 cs = some x) : ∃ f, cs = idC f ∧ IdOk f ∧ IdCan f := by
  obtain ⟨hl, ht⟩ := trod_ints Tryz.underlying36 Tryz.underlying5 cellsO_u8 h
  rw [cellsO_id] at hl
  refine ⟨idOf cs, ?_, fun i => ?_, idOf_can cs⟩
  · apply List.ext_getElem?
    intro i
    by_cases hi : i < 32
    · obtain ⟨z, hz, _⟩ := ht i hi
      rw [hz, id_atC _ hi, idOf_at hi hz]
    · rw [List.getElem?_eq_none (by omega), List.getElem?_eq_none (by rw [idC_len]; omega)]
  · by_cases hi : i < 32
    · obtain ⟨z, hz, hh⟩ := ht i hi
      rw [idOf_at hi hz]; exact has_u8 hh
    · rw [idOf_can cs i (by omega)]; omega
theorem open_entT (h : DataW.trod enc Tryz.prog w base spare held n 97 cs = some x) : ∃ e, cs = entC e ∧ IdOk e.id := by
  obtain ⟨hl, hf⟩ := trod_field Tryz.underlying97 h
  rw [cellsO_ent] at hl
  obtain ⟨m0, y0, h0⟩ := hf 0 _ rfl
  obtain ⟨m1, y1, h1⟩ := hf 1 _ rfl
  obtain ⟨m2, y2, h2⟩ := hf 2 _ rfl
  have h0 : DataW.trod enc Tryz.prog w base spare held m0 9 ((cs.drop 0).take (Tryz.prog.cellsOf 9)) = some y0 := h0
  have h1 : DataW.trod enc Tryz.prog w base spare held m1 3 ((cs.drop 1).take (Tryz.prog.cellsOf 3)) = some y1 := h1
  have h2 : DataW.trod enc Tryz.prog w base spare held m2 36 ((cs.drop 2).take (Tryz.prog.cellsOf 36)) = some y2 := h2
  obtain ⟨s, hs, _, _⟩ := DataW.trod_string Tryz.underlying9 h0
  obtain ⟨k, hk, _, _⟩ := DataW.trod_int Tryz.underlying3 h1
  obtain ⟨f, hfe, hok, _⟩ := open_idT h2
  rw [cellsO_id] at hfe
  refine ⟨⟨s, k, f⟩, ?_, hok⟩
  apply List.ext_getElem?
  intro i
  by_cases hi0 : i = 0
  · subst hi0; rw [at0 hs]; rfl
  by_cases hi1 : i = 1
  · subst hi1; rw [at0 hk]; rfl
  by_cases hi : i < 34
  · obtain ⟨j, hj, rfl⟩ : ∃ j, j < 32 ∧ i = 2 + j := ⟨i - 2, by omega, by omega⟩
    rw [ent_atC _ hj, ← id_atC f hj, ← hfe, atj hj]
  · rw [List.getElem?_eq_none (by omega), List.getElem?_eq_none (by rw [entC_len]; omega)]
end
/-- Elements behind a slice that stands in a cell. -/
theorem open_cellL {H : Type} {α : Type} {P : Program} {ec : α → List Value} {sz : Nat} {ok : α → Prop} {t e : TypeId} {enc : TypeId × Value → H} {W : World} {r : Reach} {b0 m : Nat} {v : Value} {y : DataW H × List MemPlace} (ht : P.underlying t = some (.slice e)) (hsz : P.cellsOf e = sz) (hs0 : 0 < sz) (hk : ∀ x, (ec x).length = sz)
    (hel : ∀ n cs x, DataW.trod enc P W 0 (fun _ => true) true n e cs = some x → ∃ a, cs = ec a ∧ ok a) (hc : Cell.okWide P W r b0 t v) (h : DataW.trod enc P W 0 (fun _ => true) true m t [v] = some y) (HZ : Mem) (hH : Hp HZ W) :
    ∃ HA l, Hp (HA ++ HZ) W ∧ Rdx sz ec (HA ++ HZ) v l ∧ (∀ x ∈ l, ok x) ∧ l.length ≤ 9223372036854775807 := by
  have hv : v.cells.toList = [v] := by
    rcases DataW.trod_slice ht h with ⟨hcs, _⟩ | ⟨a, len, cap, elems, rest, m', _, hcs, _⟩
    · obtain rfl := (List.cons.inj hcs).1; rfl
    · obtain rfl := (List.cons.inj hcs).1; rfl
  exact open_list (d := y.1) (p := y.2) ht hsz hs0 hk hel (by simp only [Value.okWide, ht]; exact hc) ⟨m, by rw [hv]; exact h⟩ HZ hH
def obTs : List TypeId := [3, 32, 43] ++ List.replicate 32 5 ++ [44, 3] ++ List.replicate 32 5 ++ [9]
theorem obTs_is : Tryz.prog.cellTypes Tryz.prog.depth 48 = some obTs := by kernel_rfl
theorem take1 {l : List Value} {o n : Nat} {v : Value} (hn : n = 1) (h : l[o]? = some v) : (l.drop o).take n = [v] := by
  subst hn
  obtain ⟨hlt, rfl⟩ := List.getElem?_eq_some_iff.1 h
  rw [List.drop_eq_getElem_cons hlt]; rfl
theorem cellsO_b : Tryz.prog.cellsOf 32 = 1 := by kernel_rfl
theorem cellsO_e : Tryz.prog.cellsOf 43 = 1 := by kernel_rfl
theorem cellsO_i : Tryz.prog.cellsOf 44 = 1 := by kernel_rfl
/-- An object that comes in. -/
theorem open_ob {H : Type} {enc : TypeId × Value → H} {W : World} {r : Reach} {b0 : Nat} {v : Value} {d : DataW H} {p : List MemPlace} (hval : Value.okWide Tryz.prog W r b0 48 v) (h : DataW.Trod enc Tryz.prog W 0 (fun _ => true) true 48 v d p) (HZ : Mem) (hH : Hp HZ W) :
    ∃ HA x xd xe xp, v = objV x xd xe xp ∧ Hp (HA ++ HZ) W ∧ Rdb (HA ++ HZ) xd x.data ∧ Rdx 34 entC (HA ++ HZ) xe x.ents ∧ Rdx 32 idC (HA ++ HZ) xp x.pars ∧ ObW x := by
  simp only [Value.okWide, Tryz.underlying48] at hval
  obtain ⟨cs, rfl, hsz, ts, hts, _, hc⟩ := hval
  rw [cellsO_obj] at hsz
  obtain rfl := Option.some.inj (hts.symm.trans obTs_is)
  have hl : obTs.length = 70 := rfl
  rw [hl] at hc
  have cell : ∀ i (hi : i < 70), ∃ v u, cs[i]? = some v ∧ obTs[i]? = some u ∧ Cell.okWide Tryz.prog W r b0 u v := fun i hi => by
    obtain ⟨u, hu, hk⟩ := hc i (cs[i]'(by omega)) (by simp [hsz, hi])
    rw [Nat.mod_eq_of_lt hi] at hu
    exact ⟨_, u, by simp [hsz, hi], hu, hk⟩
  obtain ⟨n, hn⟩ := h
  have hn : DataW.trod enc Tryz.prog W 0 (fun _ => true) true n 48 cs.toList = some (d, p) := hn
  obtain ⟨_, hf⟩ := trod_field Tryz.underlying48 hn
  obtain ⟨m0, y0, h0⟩ := hf 0 _ rfl
  obtain ⟨m1, y1, h1⟩ := hf 1 _ rfl
  obtain ⟨m2, y2, h2⟩ := hf 2 _ rfl
  obtain ⟨m3, y3, h3⟩ := hf 3 _ rfl
  obtain ⟨m4, y4, h4⟩ := hf 4 _ rfl
  obtain ⟨m5, y5, h5⟩ := hf 5 _ rfl
  obtain ⟨m6, y6, h6⟩ := hf 6 _ rfl
  have h0 : DataW.trod enc Tryz.prog W 0 (fun _ => true) true m0 3 ((cs.toList.drop 0).take (Tryz.prog.cellsOf 3)) = some y0 := h0
  have h1 : DataW.trod enc Tryz.prog W 0 (fun _ => true) true m1 32 ((cs.toList.drop 1).take (Tryz.prog.cellsOf 32)) = some y1 := h1
  have h2 : DataW.trod enc Tryz.prog W 0 (fun _ => true) true m2 43 ((cs.toList.drop 2).take (Tryz.prog.cellsOf 43)) = some y2 := h2
  have h3 : DataW.trod enc Tryz.prog W 0 (fun _ => true) true m3 36 ((cs.toList.drop 3).take (Tryz.prog.cellsOf 36)) = some y3 := h3
  have h4 : DataW.trod enc Tryz.prog W 0 (fun _ => true) true m4 44 ((cs.toList.drop 35).take (Tryz.prog.cellsOf 44)) = some y4 := h4
  have h5 : DataW.trod enc Tryz.prog W 0 (fun _ => true) true m5 46 ((cs.toList.drop 36).take (Tryz.prog.cellsOf 46)) = some y5 := h5
  have h6 : DataW.trod enc Tryz.prog W 0 (fun _ => true) true m6 9 ((cs.toList.drop 69).take (Tryz.prog.cellsOf 9)) = some y6 := h6
  obtain ⟨k, hk, _, _⟩ := DataW.trod_int Tryz.underlying3 h0
  obtain ⟨t, ht, htok, _⟩ := open_idT h3
  obtain ⟨s, hs, _, _⟩ := DataW.trod_string Tryz.underlying9 h6
  obtain ⟨_, hg⟩ := trod_field Tryz.underlying46 h5
  obtain ⟨g0, z0, hg0⟩ := hg 0 _ rfl
  obtain ⟨g1, z1, hg1⟩ := hg 1 _ rfl
  have hg0 : DataW.trod enc Tryz.prog W 0 (fun _ => true) true g0 3 ((((cs.toList.drop 36).take (Tryz.prog.cellsOf 46)).drop 0).take (Tryz.prog.cellsOf 3)) = some z0 := hg0
  have hg1 : DataW.trod enc Tryz.prog W 0 (fun _ => true) true g1 36 ((((cs.toList.drop 36).take (Tryz.prog.cellsOf 46)).drop 1).take (Tryz.prog.cellsOf 36)) = some z1 := hg1
  obtain ⟨gk, hgk, _, _⟩ := DataW.trod_int Tryz.underlying3 hg0
  obtain ⟨gi, hgi, hgok, _⟩ := open_idT hg1
  obtain ⟨v1, u1, c1, e1, o1⟩ := cell 1 (by decide)
  obtain ⟨v2, u2, c2, e2, o2⟩ := cell 2 (by decide)
  obtain ⟨v3, u3, c3, e3, o3⟩ := cell 35 (by decide)
  obtain rfl := Option.some.inj e1
  obtain rfl := Option.some.inj e2
  obtain rfl := Option.some.inj e3
  have c1' : cs.toList[1]? = some v1 := by simpa using c1
  have c2' : cs.toList[2]? = some v2 := by simpa using c2
  have c3' : cs.toList[35]? = some v3 := by simpa using c3
  rw [take1 cellsO_b c1'] at h1
  rw [take1 cellsO_e c2'] at h2
  rw [take1 cellsO_i c3'] at h4
  obtain ⟨HA, l1, hH1, r1, _, n1⟩ := open_cellL Tryz.underlying32 cellsO_u8 (by decide) byteC_len (ok := fun _ => True) (fun n cs x h => open_byteT h) o1 h1 HZ hH
  obtain ⟨HB, l2, hH2, r2, k2, n2⟩ := open_cellL Tryz.underlying43 cellsO_ent (by decide) entC_len (ok := fun e => IdOk e.id) (fun n cs x h => open_entT h) o2 h2 _ hH1
  obtain ⟨HC, l3, hH3, r3, k3, n3⟩ := open_cellL Tryz.underlying44 cellsO_id (by decide) idC_len (ok := fun f => IdOk f ∧ IdCan f) (fun n cs x h => open_idT h) o3 h4 _ hH2
  rw [cellsO_id] at ht hgi
  have a0 := at0 hk
  have a6 := at0 hs
  have ag := at0 hgk
  rw [cellsO_lnk] at ag hgi
  rw [atj (by decide)] at ag
  have key : cs = (objV ⟨k, l1, l2, t, l3, ⟨gk, gi⟩, s⟩ v1 v2 v3).cells := by
    apply Array.ext_getElem?
    intro i
    rw [← Array.getElem?_toList]
    by_cases i0 : i = 0
    · subst i0; rw [a0]; rfl
    by_cases i1 : i = 1
    · subst i1; rw [c1']; rfl
    by_cases i2 : i = 2
    · subst i2; rw [c2']; rfl
    by_cases i3 : i < 35
    · obtain ⟨j, hj, rfl⟩ : ∃ j, j < 32 ∧ i = 3 + j := ⟨i - 3, by omega, by omega⟩
      rw [obj_t_at _ _ _ _ hj, ← id_atC t hj, ← ht, atj hj]
    by_cases i4 : i = 35
    · subst i4; rw [c3']; rfl
    by_cases i5 : i = 36
    · subst i5; rw [ag]; rfl
    by_cases i6 : i < 69
    · obtain ⟨j, hj, rfl⟩ : ∃ j, j < 32 ∧ i = 37 + j := ⟨i - 37, by omega, by omega⟩
      rw [obj_g_at _ _ _ _ hj, ← id_atC gi hj, ← hgi, atj hj, atj (by omega), show 36 + (1 + j) = 37 + j by omega]
    by_cases i7 : i = 69
    · subst i7; rw [a6]; rfl
    · have e1 : (objV ⟨k, l1, l2, t, l3, ⟨gk, gi⟩, s⟩ v1 v2 v3).cells.size = 70 := rfl
      rw [List.getElem?_eq_none (by rw [Array.length_toList]; omega), Array.getElem?_eq_none (by omega)]
  refine ⟨HC ++ (HB ++ HA), ⟨k, l1, l2, t, l3, ⟨gk, gi⟩, s⟩, v1, v2, v3, by rw [key]; rfl, by rw [List.append_assoc, List.append_assoc]; exact hH3, Rdb.of_x (r1.mono fun _ hw => hw.sp (fun a => by simp only [cnt_append]; omega)), r2.mono fun _ hw => hw.sp (fun a => by simp only [cnt_append]; omega), r3.mono fun _ hw => hw.sp (fun a => by simp only [cnt_append]; omega), n1, n2, n3, k2, htok, hgok, fun f hf => (k3 f hf).1, fun f hf => (k3 f hf).2⟩

end Go.Proofs.YtloljpefdecmhaaGreatDoor
