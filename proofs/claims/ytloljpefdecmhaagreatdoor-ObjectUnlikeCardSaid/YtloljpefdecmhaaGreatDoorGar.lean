import Derived.Test.YtloljpefdecmhaaGreatDoorGaq
namespace Go.Proofs.YtloljpefdecmhaaGreatDoor
open Go Go.Mv
set_option maxRecDepth 8000
theorem okK1 {x : Ob} (hk : x.k = 1) : obOkB x = (decide ((x.data.length : Int) ≤ 1024) && obSame (⟨x.k, x.data, [], (fun _ => 0), [], (⟨0, (fun _ => 0)⟩ : Lnk), ⟨#[]⟩⟩ : Ob) x) := by
  rw [obOkB, mayB, bareOb, if_pos hk, if_pos hk]
  congr 1
  exact decide_eq_decide.2 (by omega)
theorem okK2 {x : Ob} (hk : x.k = 2) : obOkB x = (treeB x.ents && obSame (⟨x.k, [], x.ents, (fun _ => 0), [], (⟨0, (fun _ => 0)⟩ : Lnk), ⟨#[]⟩⟩ : Ob) x) := by
  have h1 : ¬ x.k = 1 := by omega
  rw [obOkB, mayB, bareOb, if_neg h1, if_neg h1, if_pos hk, if_pos hk]
  rfl
theorem okK3 {x : Ob} (hk : x.k = 3) : obOkB x = ((parsB x.pars && decide ((x.m.size : Int) ≤ 200)) && obSame (⟨x.k, [], [], x.t, x.pars, (⟨0, (fun _ => 0)⟩ : Lnk), x.m⟩ : Ob) x) := by
  have h1 : ¬ x.k = 1 := by omega
  have h2 : ¬ x.k = 2 := by omega
  rw [obOkB, mayB, bareOb, if_neg h1, if_neg h1, if_neg h2, if_neg h2, if_pos hk, if_pos hk]
  congr 1
  congr 1
  exact decide_eq_decide.2 (by omega)
theorem okK4 {x : Ob} (hk : x.k = 4) : obOkB x = (((decide (1 ≤ x.tg.k) && decide (x.tg.k ≤ 4)) && decide ((x.m.size : Int) ≤ 200)) && obSame (⟨x.k, [], [], (fun _ => 0), [], x.tg, x.m⟩ : Ob) x) := by
  have h1 : ¬ x.k = 1 := by omega
  have h2 : ¬ x.k = 2 := by omega
  have h3 : ¬ x.k = 3 := by omega
  rw [obOkB, mayB, bareOb, if_neg h1, if_neg h1, if_neg h2, if_neg h2, if_neg h3, if_neg h3, if_pos hk]
  congr 1
  congr 1
  exact decide_eq_decide.2 (by omega)
theorem chkE_F {x : Ob} {m s e : Bool} (h : obOkB x = (m && s)) (he : e = (!m || !s)) (hc : e = true) : (70 : Int) = err (obOkB x) 70 := by
  rw [h]; rw [he] at hc; revert hc; cases m <;> cases s <;> first | exact fun _ => rfl | exact fun h => by cases h
theorem chkE_T {x : Ob} {m s e : Bool} (h : obOkB x = (m && s)) (he : e = (!m || !s)) (hc : e = false) : (0 : Int) = err (obOkB x) 70 := by
  rw [h]; rw [he] at hc; revert hc; cases m <;> cases s <;> first | exact fun _ => rfl | exact fun h => by cases h

theorem c_obCheck (x : Ob) (xd : Value) (xe : Value) (xp : Value) (HX : Mem) (w : World) (hbxd : Rdb HX xd x.data) (hbxe : Rdx 34 (entC) HX xe x.ents) (hbxp : Rdx 32 (idC) HX xp x.pars) (hox : ObOk x) (hH : Hp HX w) : Calls Tryz.prog 33 #[objV x xd xe xp] w (Ret w [] fun v H1 => v = .int .i64 (err (obOkB x) 70) ∧ H1 = []) := by
  have hw1 := hox.d; have hw2 := hox.e; have hw3 := hox.p; have hw4 := hox.m; have hwe := hox.en
  refine fn_enter (args := [_]) Tryz.func33 rfl Tryz.ntmps33 rfl hH ?_
  refine pn_seq ?_
  refine pn_plain [] rfl ?_
  refine TE_boxC (objV x xd xe xp).cells rfl rfl rfl trivial rfl fun b1 hb1 => ?_
  refine TE_q rfl rfl (RD.assign rfl) rfl ?_
  refine TE_nil0 ?_
  refine pn_seq ?_
  refine pn_plain [] rfl ?_
  refine TE_l rfl rfl trivial rfl (RD.loadA (i := 0) Tryz.isAgg48 Tryz.sizeOf48 rfl rfl (Nat.le_of_ble_eq_true rfl) (obj_all _ _ _ _)) rfl ?_
  refine TE_callG _ HX rfl rfl trivial Tryz.call61 rfl rfl rfl (fun w hw => c_of7 x xd xe xp HX w (hbxd.mono (fun _ hw => hw.sp (fun a => by simp -failIfUnchanged <;> omega))) (hbxe.mono (fun _ hw => hw.sp (fun a => by simp -failIfUnchanged <;> omega))) (hbxp.mono (fun _ hw => hw.sp (fun a => by simp -failIfUnchanged <;> omega))) hox (hw.sp (fun a => by simp -failIfUnchanged <;> omega))) (fun a => by simp -failIfUnchanged <;> omega) ?_
  rintro v9 H10 (⟨hk1, rfl, rfl⟩ | ⟨hk2, rfl, rfl⟩ | ⟨hk3, rfl, rfl⟩ | ⟨hk4, rfl, rfl⟩ | ⟨⟨⟨⟨hk5, hk6⟩, hk7⟩, hk8⟩, rfl, rfl⟩) hX11
  · refine TE_q rfl rfl (RD.move rfl) rfl ?_
    refine TE_q rfl rfl (RD.extract rfl rfl) rfl ?_
    refine TE_q rfl rfl (RD.extract rfl rfl) rfl ?_
    refine TE_q rfl rfl (RD.assign rfl) rfl ?_
    refine TE_q rfl rfl (RD.assign rfl) rfl ?_
    refine TE_nil0 ?_
    refine pn_seq ?_
    refine pn_seq ?_
    refine pn_drawG [10] [] ((b1, .cells (objV x xd xe xp).cells 48 (0, 0)) :: HX) rfl rfl (by kernel_rfl) (fun a => by simp -failIfUnchanged <;> omega) ?_
    refine TE_q rfl rfl (RD.move rfl) rfl ?_
    refine TE_q rfl rfl (RD.as (v := .bool false) (RD.not rfl) rfl) rfl ?_
    refine TE_q rfl rfl (RD.move rfl) rfl ?_
    refine TE_gq rfl rfl rfl rfl (RD.move rfl) rfl ?_
    refine TE_invM _ [] [] HX inv_blob_may rfl rfl ⟨_, rfl, rfl⟩ rfl rfl rfl own0 (fun a => by simp -failIfUnchanged <;> omega) (fun w hw => c_blobMay x xd xe xp HX w (hbxd.mono (fun _ hw => hw.sp (fun a => by simp -failIfUnchanged <;> omega))) (hbxe.mono (fun _ hw => hw.sp (fun a => by simp -failIfUnchanged <;> omega))) (hbxp.mono (fun _ hw => hw.sp (fun a => by simp -failIfUnchanged <;> omega))) hox (hw.sp (fun a => by simp -failIfUnchanged <;> omega))) (fun a => by simp -failIfUnchanged <;> omega) ?_
    rintro v12 H13 ⟨rfl, rfl⟩ -
    refine TE_sp [] (fun a => by simp -failIfUnchanged <;> omega) ?_
    refine TE_gq rfl rfl rfl rfl (RD.not rfl) rfl ?_
    refine TE_q rfl rfl (RD.pickF rfl rfl) rfl ?_
    refine TE_q rfl rfl (RD.move rfl) rfl ?_
    refine TE_join (σ := Unit) (fun _ => [(23, .bool ((!decide ((x.data.length : Int) ≤ 1024)) || (!(obSame (⟨x.k, x.data, [], (fun _ => 0), [], (⟨0, (fun _ => 0)⟩ : Lnk), ⟨#[]⟩⟩ : Ob) x))))]) (fun _ => ((b1, .cells (objV x xd xe xp).cells 48 (0, 0)) :: HX)) (fun _ => True) ?_ ?_
    · refine TE_ndec (fun hf14 => ?_) (fun hf14 => ?_)
      · refine TE_s rfl rfl rfl rfl rfl ?_
        refine TE_s rfl rfl rfl rfl rfl ?_
        refine TE_s rfl rfl rfl rfl rfl ?_
        refine TE_s rfl rfl rfl rfl rfl ?_
        refine TE_s rfl rfl rfl rfl rfl ?_
        refine TE_q rfl rfl (RD.pickT rfl rfl) rfl ?_
        refine TE_nil ?_
        exact pn_give () trivial ⟨congrArg (fun b => some (Value.bool b)) (by first | (simp [hf14]; done) | (simp only [decide_eq_false hf14]; rfl) | (simp only [decide_eq_false hf14]; simp; done)), trivial⟩ (fun _ hw => hw.sp (fun a => by simp -failIfUnchanged <;> omega))
      · refine TE_gq rfl rfl rfl rfl (RD.move rfl) rfl ?_
        refine TE_invM _ [] [] HX inv_blob_bare rfl rfl ⟨_, rfl, rfl⟩ rfl rfl rfl own0 (fun a => by simp -failIfUnchanged <;> omega) (fun w hw => c_blobBare x xd xe xp HX w (hbxd.mono (fun _ hw => hw.sp (fun a => by simp -failIfUnchanged <;> omega))) (hbxe.mono (fun _ hw => hw.sp (fun a => by simp -failIfUnchanged <;> omega))) (hbxp.mono (fun _ hw => hw.sp (fun a => by simp -failIfUnchanged <;> omega))) hox (hw.sp (fun a => by simp -failIfUnchanged <;> omega))) (fun a => by simp -failIfUnchanged <;> omega) ?_
        rintro v15 H16 ⟨rfl, rfl⟩ -
        refine TE_sp [] (fun a => by simp -failIfUnchanged <;> omega) ?_
        refine TE_gq rfl rfl rfl rfl (RD.loadA (i := 0) Tryz.isAgg48 Tryz.sizeOf48 rfl rfl (Nat.le_of_ble_eq_true rfl) (obj_all _ _ _ _)) rfl ?_
        refine TE_callG _ HX rfl rfl ⟨_, rfl, rfl⟩ Tryz.call36 rfl rfl rfl (fun w hw => c_obSame (⟨x.k, x.data, [], (fun _ => 0), [], (⟨0, (fun _ => 0)⟩ : Lnk), ⟨#[]⟩⟩ : Ob) xd (.slice none 0 0) (.slice none 0 0) x xd xe xp HX w (hbxd.mono (fun _ hw => hw.sp (fun a => by simp -failIfUnchanged <;> omega))) Rdx.nil Rdx.nil (hbxd.mono (fun _ hw => hw.sp (fun a => by simp -failIfUnchanged <;> omega))) (hbxe.mono (fun _ hw => hw.sp (fun a => by simp -failIfUnchanged <;> omega))) (hbxp.mono (fun _ hw => hw.sp (fun a => by simp -failIfUnchanged <;> omega))) ⟨(by first | omega | (dsimp only [List.length_nil]; omega) | simp), (by first | omega | (dsimp only [List.length_nil]; omega) | simp)⟩ ⟨(by first | omega | (dsimp only [List.length_nil]; omega) | simp), (by first | omega | (dsimp only [List.length_nil]; omega) | simp)⟩ (hw.sp (fun a => by simp -failIfUnchanged <;> omega))) (fun a => by simp -failIfUnchanged <;> omega) ?_
        rintro v17 H18 ⟨rfl, rfl⟩ -
        refine TE_gq rfl rfl rfl rfl (RD.not rfl) rfl ?_
        refine TE_q rfl rfl (RD.pickF rfl rfl) rfl ?_
        refine TE_nil ?_
        exact pn_give () trivial ⟨congrArg (fun b => some (Value.bool b)) (by first | (simp [hf14]; done) | (simp only [decide_eq_true hf14]; rfl) | (simp only [decide_eq_true hf14]; simp; done)), trivial⟩ (fun _ hw => hw.sp (fun a => by simp -failIfUnchanged <;> omega))
    rintro _ -
    refine pn_cond rfl (fun hc19 => ?_) (fun hc19 => ?_)
    · refine pn_seq ?_
      refine pn_plainG [] [] rfl (fun a => by simp -failIfUnchanged <;> omega) ?_
      refine TE_q rfl rfl (RD.assign rfl) rfl ?_
      refine TE_nil0 ?_
      refine pn_ret ?_
      exact pn_doneS [] rfl rfl ⟨(congrArg (Value.int .i64) (chkE_F (okK1 hk1) rfl hc19)), rfl⟩ (fun _ => Nat.zero_le _) (fun _ he => nomatch he)
    · refine pn_skip ?_
      refine pn_seq ?_
      refine pn_plainG [] [] rfl (fun a => by simp -failIfUnchanged <;> omega) ?_
      refine TE_q rfl rfl (RD.assign rfl) rfl ?_
      refine TE_nil0 ?_
      refine pn_ret ?_
      exact pn_doneS [] rfl rfl ⟨(congrArg (Value.int .i64) (chkE_T (okK1 hk1) rfl hc19)), rfl⟩ (fun _ => Nat.zero_le _) (fun _ he => nomatch he)
  · refine TE_q rfl rfl (RD.move rfl) rfl ?_
    refine TE_q rfl rfl (RD.extract rfl rfl) rfl ?_
    refine TE_q rfl rfl (RD.extract rfl rfl) rfl ?_
    refine TE_q rfl rfl (RD.assign rfl) rfl ?_
    refine TE_q rfl rfl (RD.assign rfl) rfl ?_
    refine TE_nil0 ?_
    refine pn_seq ?_
    refine pn_seq ?_
    refine pn_drawG [10] [] ((b1, .cells (objV x xd xe xp).cells 48 (0, 0)) :: HX) rfl rfl (by kernel_rfl) (fun a => by simp -failIfUnchanged <;> omega) ?_
    refine TE_q rfl rfl (RD.move rfl) rfl ?_
    refine TE_q rfl rfl (RD.as (v := .bool false) (RD.not rfl) rfl) rfl ?_
    refine TE_q rfl rfl (RD.move rfl) rfl ?_
    refine TE_gq rfl rfl rfl rfl (RD.move rfl) rfl ?_
    refine TE_invM _ [] [] HX inv_tree_may rfl rfl ⟨_, rfl, rfl⟩ rfl rfl rfl own0 (fun a => by simp -failIfUnchanged <;> omega) (fun w hw => c_treeMay x xd xe xp HX w (hbxd.mono (fun _ hw => hw.sp (fun a => by simp -failIfUnchanged <;> omega))) (hbxe.mono (fun _ hw => hw.sp (fun a => by simp -failIfUnchanged <;> omega))) (hbxp.mono (fun _ hw => hw.sp (fun a => by simp -failIfUnchanged <;> omega))) hox (hw.sp (fun a => by simp -failIfUnchanged <;> omega))) (fun a => by simp -failIfUnchanged <;> omega) ?_
    rintro v20 H21 ⟨rfl, rfl⟩ -
    refine TE_sp [] (fun a => by simp -failIfUnchanged <;> omega) ?_
    refine TE_gq rfl rfl rfl rfl (RD.not rfl) rfl ?_
    refine TE_q rfl rfl (RD.pickF rfl rfl) rfl ?_
    refine TE_q rfl rfl (RD.move rfl) rfl ?_
    refine TE_join (σ := Unit) (fun _ => [(23, .bool ((!(treeB x.ents)) || (!(obSame (⟨x.k, [], x.ents, (fun _ => 0), [], (⟨0, (fun _ => 0)⟩ : Lnk), ⟨#[]⟩⟩ : Ob) x))))]) (fun _ => ((b1, .cells (objV x xd xe xp).cells 48 (0, 0)) :: HX)) (fun _ => True) ?_ ?_
    · refine TE_bool (fun hf22 => ?_) (fun hf22 => ?_)
      · refine TE_s rfl rfl rfl rfl rfl ?_
        refine TE_s rfl rfl rfl rfl rfl ?_
        refine TE_s rfl rfl rfl rfl rfl ?_
        refine TE_s rfl rfl rfl rfl rfl ?_
        refine TE_s rfl rfl rfl rfl rfl ?_
        refine TE_q rfl rfl (RD.pickT rfl rfl) rfl ?_
        refine TE_nil ?_
        exact pn_give () trivial ⟨congrArg (fun b => some (Value.bool b)) (by first | (simp [hf22]; done) | (simp only [hf22]; rfl) | (simp only [hf22]; simp; done)), trivial⟩ (fun _ hw => hw.sp (fun a => by simp -failIfUnchanged <;> omega))
      · refine TE_gq rfl rfl rfl rfl (RD.move rfl) rfl ?_
        refine TE_invM _ [] [] HX inv_tree_bare rfl rfl ⟨_, rfl, rfl⟩ rfl rfl rfl own0 (fun a => by simp -failIfUnchanged <;> omega) (fun w hw => c_treeBare x xd xe xp HX w (hbxd.mono (fun _ hw => hw.sp (fun a => by simp -failIfUnchanged <;> omega))) (hbxe.mono (fun _ hw => hw.sp (fun a => by simp -failIfUnchanged <;> omega))) (hbxp.mono (fun _ hw => hw.sp (fun a => by simp -failIfUnchanged <;> omega))) hox (hw.sp (fun a => by simp -failIfUnchanged <;> omega))) (fun a => by simp -failIfUnchanged <;> omega) ?_
        rintro v23 H24 ⟨rfl, rfl⟩ -
        refine TE_sp [] (fun a => by simp -failIfUnchanged <;> omega) ?_
        refine TE_gq rfl rfl rfl rfl (RD.loadA (i := 0) Tryz.isAgg48 Tryz.sizeOf48 rfl rfl (Nat.le_of_ble_eq_true rfl) (obj_all _ _ _ _)) rfl ?_
        refine TE_callG _ HX rfl rfl ⟨_, rfl, rfl⟩ Tryz.call36 rfl rfl rfl (fun w hw => c_obSame (⟨x.k, [], x.ents, (fun _ => 0), [], (⟨0, (fun _ => 0)⟩ : Lnk), ⟨#[]⟩⟩ : Ob) (.slice none 0 0) xe (.slice none 0 0) x xd xe xp HX w (.inl ⟨rfl, rfl⟩) (hbxe.mono (fun _ hw => hw.sp (fun a => by simp -failIfUnchanged <;> omega))) Rdx.nil (hbxd.mono (fun _ hw => hw.sp (fun a => by simp -failIfUnchanged <;> omega))) (hbxe.mono (fun _ hw => hw.sp (fun a => by simp -failIfUnchanged <;> omega))) (hbxp.mono (fun _ hw => hw.sp (fun a => by simp -failIfUnchanged <;> omega))) ⟨(by first | omega | (dsimp only [List.length_nil]; omega) | simp), (by first | omega | (dsimp only [List.length_nil]; omega) | simp)⟩ ⟨(by first | omega | (dsimp only [List.length_nil]; omega) | simp), (by first | omega | (dsimp only [List.length_nil]; omega) | simp)⟩ (hw.sp (fun a => by simp -failIfUnchanged <;> omega))) (fun a => by simp -failIfUnchanged <;> omega) ?_
        rintro v25 H26 ⟨rfl, rfl⟩ -
        refine TE_gq rfl rfl rfl rfl (RD.not rfl) rfl ?_
        refine TE_q rfl rfl (RD.pickF rfl rfl) rfl ?_
        refine TE_nil ?_
        exact pn_give () trivial ⟨congrArg (fun b => some (Value.bool b)) (by first | (simp [hf22]; done) | (simp only [hf22]; rfl) | (simp only [hf22]; simp; done)), trivial⟩ (fun _ hw => hw.sp (fun a => by simp -failIfUnchanged <;> omega))
    rintro _ -
    refine pn_cond rfl (fun hc27 => ?_) (fun hc27 => ?_)
    · refine pn_seq ?_
      refine pn_plainG [] [] rfl (fun a => by simp -failIfUnchanged <;> omega) ?_
      refine TE_q rfl rfl (RD.assign rfl) rfl ?_
      refine TE_nil0 ?_
      refine pn_ret ?_
      exact pn_doneS [] rfl rfl ⟨(congrArg (Value.int .i64) (chkE_F (okK2 hk2) rfl hc27)), rfl⟩ (fun _ => Nat.zero_le _) (fun _ he => nomatch he)
    · refine pn_skip ?_
      refine pn_seq ?_
      refine pn_plainG [] [] rfl (fun a => by simp -failIfUnchanged <;> omega) ?_
      refine TE_q rfl rfl (RD.assign rfl) rfl ?_
      refine TE_nil0 ?_
      refine pn_ret ?_
      exact pn_doneS [] rfl rfl ⟨(congrArg (Value.int .i64) (chkE_T (okK2 hk2) rfl hc27)), rfl⟩ (fun _ => Nat.zero_le _) (fun _ he => nomatch he)
  · refine TE_q rfl rfl (RD.move rfl) rfl ?_
    refine TE_q rfl rfl (RD.extract rfl rfl) rfl ?_
    refine TE_q rfl rfl (RD.extract rfl rfl) rfl ?_
    refine TE_q rfl rfl (RD.assign rfl) rfl ?_
    refine TE_q rfl rfl (RD.assign rfl) rfl ?_
    refine TE_nil0 ?_
    refine pn_seq ?_
    refine pn_seq ?_
    refine pn_drawG [10] [] ((b1, .cells (objV x xd xe xp).cells 48 (0, 0)) :: HX) rfl rfl (by kernel_rfl) (fun a => by simp -failIfUnchanged <;> omega) ?_
    refine TE_q rfl rfl (RD.move rfl) rfl ?_
    refine TE_q rfl rfl (RD.as (v := .bool false) (RD.not rfl) rfl) rfl ?_
    refine TE_q rfl rfl (RD.move rfl) rfl ?_
    refine TE_gq rfl rfl rfl rfl (RD.move rfl) rfl ?_
    refine TE_invM _ [] [] HX inv_commit_may rfl rfl ⟨_, rfl, rfl⟩ rfl rfl rfl own0 (fun a => by simp -failIfUnchanged <;> omega) (fun w hw => c_commitMay x xd xe xp HX w (hbxd.mono (fun _ hw => hw.sp (fun a => by simp -failIfUnchanged <;> omega))) (hbxe.mono (fun _ hw => hw.sp (fun a => by simp -failIfUnchanged <;> omega))) (hbxp.mono (fun _ hw => hw.sp (fun a => by simp -failIfUnchanged <;> omega))) hox (hw.sp (fun a => by simp -failIfUnchanged <;> omega))) (fun a => by simp -failIfUnchanged <;> omega) ?_
    rintro v28 H29 ⟨rfl, rfl⟩ -
    refine TE_sp [] (fun a => by simp -failIfUnchanged <;> omega) ?_
    refine TE_gq rfl rfl rfl rfl (RD.not rfl) rfl ?_
    refine TE_q rfl rfl (RD.pickF rfl rfl) rfl ?_
    refine TE_q rfl rfl (RD.move rfl) rfl ?_
    refine TE_join (σ := Unit) (fun _ => [(23, .bool ((!((parsB x.pars) && (decide ((x.m.size : Int) ≤ 200)))) || (!(obSame (⟨x.k, [], [], x.t, x.pars, (⟨0, (fun _ => 0)⟩ : Lnk), x.m⟩ : Ob) x))))]) (fun _ => ((b1, .cells (objV x xd xe xp).cells 48 (0, 0)) :: HX)) (fun _ => True) ?_ ?_
    · refine TE_bool (fun hf30 => ?_) (fun hf30 => ?_)
      · refine TE_s rfl rfl rfl rfl rfl ?_
        refine TE_s rfl rfl rfl rfl rfl ?_
        refine TE_s rfl rfl rfl rfl rfl ?_
        refine TE_s rfl rfl rfl rfl rfl ?_
        refine TE_s rfl rfl rfl rfl rfl ?_
        refine TE_q rfl rfl (RD.pickT rfl rfl) rfl ?_
        refine TE_nil ?_
        exact pn_give () trivial ⟨congrArg (fun b => some (Value.bool b)) (by first | (simp [hf30]; done) | (simp only [hf30]; rfl) | (simp only [hf30]; simp; done)), trivial⟩ (fun _ hw => hw.sp (fun a => by simp -failIfUnchanged <;> omega))
      · refine TE_gq rfl rfl rfl rfl (RD.move rfl) rfl ?_
        refine TE_invM _ [] [] HX inv_commit_bare rfl rfl ⟨_, rfl, rfl⟩ rfl rfl rfl own0 (fun a => by simp -failIfUnchanged <;> omega) (fun w hw => c_commitBare x xd xe xp HX w (hbxd.mono (fun _ hw => hw.sp (fun a => by simp -failIfUnchanged <;> omega))) (hbxe.mono (fun _ hw => hw.sp (fun a => by simp -failIfUnchanged <;> omega))) (hbxp.mono (fun _ hw => hw.sp (fun a => by simp -failIfUnchanged <;> omega))) hox (hw.sp (fun a => by simp -failIfUnchanged <;> omega))) (fun a => by simp -failIfUnchanged <;> omega) ?_
        rintro v31 H32 ⟨rfl, rfl⟩ -
        refine TE_sp [] (fun a => by simp -failIfUnchanged <;> omega) ?_
        refine TE_gq rfl rfl rfl rfl (RD.loadA (i := 0) Tryz.isAgg48 Tryz.sizeOf48 rfl rfl (Nat.le_of_ble_eq_true rfl) (obj_all _ _ _ _)) rfl ?_
        refine TE_callG _ HX rfl rfl ⟨_, rfl, rfl⟩ Tryz.call36 rfl rfl rfl (fun w hw => c_obSame (⟨x.k, [], [], x.t, x.pars, (⟨0, (fun _ => 0)⟩ : Lnk), x.m⟩ : Ob) (.slice none 0 0) (.slice none 0 0) xp x xd xe xp HX w (.inl ⟨rfl, rfl⟩) Rdx.nil (hbxp.mono (fun _ hw => hw.sp (fun a => by simp -failIfUnchanged <;> omega))) (hbxd.mono (fun _ hw => hw.sp (fun a => by simp -failIfUnchanged <;> omega))) (hbxe.mono (fun _ hw => hw.sp (fun a => by simp -failIfUnchanged <;> omega))) (hbxp.mono (fun _ hw => hw.sp (fun a => by simp -failIfUnchanged <;> omega))) ⟨(by first | omega | (dsimp only [List.length_nil]; omega) | simp), (by first | omega | (dsimp only [List.length_nil]; omega) | simp)⟩ ⟨(by first | omega | (dsimp only [List.length_nil]; omega) | simp), (by first | omega | (dsimp only [List.length_nil]; omega) | simp)⟩ (hw.sp (fun a => by simp -failIfUnchanged <;> omega))) (fun a => by simp -failIfUnchanged <;> omega) ?_
        rintro v33 H34 ⟨rfl, rfl⟩ -
        refine TE_gq rfl rfl rfl rfl (RD.not rfl) rfl ?_
        refine TE_q rfl rfl (RD.pickF rfl rfl) rfl ?_
        refine TE_nil ?_
        exact pn_give () trivial ⟨congrArg (fun b => some (Value.bool b)) (by first | (simp [hf30]; done) | (simp only [hf30]; rfl) | (simp only [hf30]; simp; done)), trivial⟩ (fun _ hw => hw.sp (fun a => by simp -failIfUnchanged <;> omega))
    rintro _ -
    refine pn_cond rfl (fun hc35 => ?_) (fun hc35 => ?_)
    · refine pn_seq ?_
      refine pn_plainG [] [] rfl (fun a => by simp -failIfUnchanged <;> omega) ?_
      refine TE_q rfl rfl (RD.assign rfl) rfl ?_
      refine TE_nil0 ?_
      refine pn_ret ?_
      exact pn_doneS [] rfl rfl ⟨(congrArg (Value.int .i64) (chkE_F (okK3 hk3) rfl hc35)), rfl⟩ (fun _ => Nat.zero_le _) (fun _ he => nomatch he)
    · refine pn_skip ?_
      refine pn_seq ?_
      refine pn_plainG [] [] rfl (fun a => by simp -failIfUnchanged <;> omega) ?_
      refine TE_q rfl rfl (RD.assign rfl) rfl ?_
      refine TE_nil0 ?_
      refine pn_ret ?_
      exact pn_doneS [] rfl rfl ⟨(congrArg (Value.int .i64) (chkE_T (okK3 hk3) rfl hc35)), rfl⟩ (fun _ => Nat.zero_le _) (fun _ he => nomatch he)
  · refine TE_q rfl rfl (RD.move rfl) rfl ?_
    refine TE_q rfl rfl (RD.extract rfl rfl) rfl ?_
    refine TE_q rfl rfl (RD.extract rfl rfl) rfl ?_
    refine TE_q rfl rfl (RD.assign rfl) rfl ?_
    refine TE_q rfl rfl (RD.assign rfl) rfl ?_
    refine TE_nil0 ?_
    refine pn_seq ?_
    refine pn_seq ?_
    refine pn_drawG [10] [] ((b1, .cells (objV x xd xe xp).cells 48 (0, 0)) :: HX) rfl rfl (by kernel_rfl) (fun a => by simp -failIfUnchanged <;> omega) ?_
    refine TE_q rfl rfl (RD.move rfl) rfl ?_
    refine TE_q rfl rfl (RD.as (v := .bool false) (RD.not rfl) rfl) rfl ?_
    refine TE_q rfl rfl (RD.move rfl) rfl ?_
    refine TE_gq rfl rfl rfl rfl (RD.move rfl) rfl ?_
    refine TE_invM _ [] [] HX inv_tag_may rfl rfl ⟨_, rfl, rfl⟩ rfl rfl rfl own0 (fun a => by simp -failIfUnchanged <;> omega) (fun w hw => c_tagMay x xd xe xp HX w (hbxd.mono (fun _ hw => hw.sp (fun a => by simp -failIfUnchanged <;> omega))) (hbxe.mono (fun _ hw => hw.sp (fun a => by simp -failIfUnchanged <;> omega))) (hbxp.mono (fun _ hw => hw.sp (fun a => by simp -failIfUnchanged <;> omega))) hox (hw.sp (fun a => by simp -failIfUnchanged <;> omega))) (fun a => by simp -failIfUnchanged <;> omega) ?_
    rintro v36 H37 ⟨rfl, rfl⟩ -
    refine TE_sp [] (fun a => by simp -failIfUnchanged <;> omega) ?_
    refine TE_gq rfl rfl rfl rfl (RD.not rfl) rfl ?_
    refine TE_q rfl rfl (RD.pickF rfl rfl) rfl ?_
    refine TE_q rfl rfl (RD.move rfl) rfl ?_
    refine TE_join (σ := Unit) (fun _ => [(23, .bool ((!(((decide (1 ≤ x.tg.k)) && (decide (x.tg.k ≤ 4))) && (decide ((x.m.size : Int) ≤ 200)))) || (!(obSame (⟨x.k, [], [], (fun _ => 0), [], x.tg, x.m⟩ : Ob) x))))]) (fun _ => ((b1, .cells (objV x xd xe xp).cells 48 (0, 0)) :: HX)) (fun _ => True) ?_ ?_
    · refine TE_bool (fun hf38 => ?_) (fun hf38 => ?_)
      · refine TE_s rfl rfl rfl rfl rfl ?_
        refine TE_s rfl rfl rfl rfl rfl ?_
        refine TE_s rfl rfl rfl rfl rfl ?_
        refine TE_s rfl rfl rfl rfl rfl ?_
        refine TE_s rfl rfl rfl rfl rfl ?_
        refine TE_q rfl rfl (RD.pickT rfl rfl) rfl ?_
        refine TE_nil ?_
        exact pn_give () trivial ⟨congrArg (fun b => some (Value.bool b)) (by first | (simp [hf38]; done) | (simp only [hf38]; rfl) | (simp only [hf38]; simp; done)), trivial⟩ (fun _ hw => hw.sp (fun a => by simp -failIfUnchanged <;> omega))
      · refine TE_gq rfl rfl rfl rfl (RD.move rfl) rfl ?_
        refine TE_invM _ [] [] HX inv_tag_bare rfl rfl ⟨_, rfl, rfl⟩ rfl rfl rfl own0 (fun a => by simp -failIfUnchanged <;> omega) (fun w hw => c_tagBare x xd xe xp HX w (hbxd.mono (fun _ hw => hw.sp (fun a => by simp -failIfUnchanged <;> omega))) (hbxe.mono (fun _ hw => hw.sp (fun a => by simp -failIfUnchanged <;> omega))) (hbxp.mono (fun _ hw => hw.sp (fun a => by simp -failIfUnchanged <;> omega))) hox (hw.sp (fun a => by simp -failIfUnchanged <;> omega))) (fun a => by simp -failIfUnchanged <;> omega) ?_
        rintro v39 H40 ⟨rfl, rfl⟩ -
        refine TE_sp [] (fun a => by simp -failIfUnchanged <;> omega) ?_
        refine TE_gq rfl rfl rfl rfl (RD.loadA (i := 0) Tryz.isAgg48 Tryz.sizeOf48 rfl rfl (Nat.le_of_ble_eq_true rfl) (obj_all _ _ _ _)) rfl ?_
        refine TE_callG _ HX rfl rfl ⟨_, rfl, rfl⟩ Tryz.call36 rfl rfl rfl (fun w hw => c_obSame (⟨x.k, [], [], (fun _ => 0), [], x.tg, x.m⟩ : Ob) (.slice none 0 0) (.slice none 0 0) (.slice none 0 0) x xd xe xp HX w (.inl ⟨rfl, rfl⟩) Rdx.nil Rdx.nil (hbxd.mono (fun _ hw => hw.sp (fun a => by simp -failIfUnchanged <;> omega))) (hbxe.mono (fun _ hw => hw.sp (fun a => by simp -failIfUnchanged <;> omega))) (hbxp.mono (fun _ hw => hw.sp (fun a => by simp -failIfUnchanged <;> omega))) ⟨(by first | omega | (dsimp only [List.length_nil]; omega) | simp), (by first | omega | (dsimp only [List.length_nil]; omega) | simp)⟩ ⟨(by first | omega | (dsimp only [List.length_nil]; omega) | simp), (by first | omega | (dsimp only [List.length_nil]; omega) | simp)⟩ (hw.sp (fun a => by simp -failIfUnchanged <;> omega))) (fun a => by simp -failIfUnchanged <;> omega) ?_
        rintro v41 H42 ⟨rfl, rfl⟩ -
        refine TE_gq rfl rfl rfl rfl (RD.not rfl) rfl ?_
        refine TE_q rfl rfl (RD.pickF rfl rfl) rfl ?_
        refine TE_nil ?_
        exact pn_give () trivial ⟨congrArg (fun b => some (Value.bool b)) (by first | (simp [hf38]; done) | (simp only [hf38]; rfl) | (simp only [hf38]; simp; done)), trivial⟩ (fun _ hw => hw.sp (fun a => by simp -failIfUnchanged <;> omega))
    rintro _ -
    refine pn_cond rfl (fun hc43 => ?_) (fun hc43 => ?_)
    · refine pn_seq ?_
      refine pn_plainG [] [] rfl (fun a => by simp -failIfUnchanged <;> omega) ?_
      refine TE_q rfl rfl (RD.assign rfl) rfl ?_
      refine TE_nil0 ?_
      refine pn_ret ?_
      exact pn_doneS [] rfl rfl ⟨(congrArg (Value.int .i64) (chkE_F (okK4 hk4) rfl hc43)), rfl⟩ (fun _ => Nat.zero_le _) (fun _ he => nomatch he)
    · refine pn_skip ?_
      refine pn_seq ?_
      refine pn_plainG [] [] rfl (fun a => by simp -failIfUnchanged <;> omega) ?_
      refine TE_q rfl rfl (RD.assign rfl) rfl ?_
      refine TE_nil0 ?_
      refine pn_ret ?_
      exact pn_doneS [] rfl rfl ⟨(congrArg (Value.int .i64) (chkE_T (okK4 hk4) rfl hc43)), rfl⟩ (fun _ => Nat.zero_le _) (fun _ he => nomatch he)
  · refine TE_q rfl rfl (RD.move rfl) rfl ?_
    refine TE_q rfl rfl (RD.extract rfl rfl) rfl ?_
    refine TE_q rfl rfl (RD.extract rfl rfl) rfl ?_
    refine TE_q rfl rfl (RD.assign rfl) rfl ?_
    refine TE_q rfl rfl (RD.assign rfl) rfl ?_
    refine TE_nil0 ?_
    refine pn_seq ?_
    refine pn_seq ?_
    refine pn_drawG [10] [] ((b1, .cells (objV x xd xe xp).cells 48 (0, 0)) :: HX) rfl rfl (by kernel_rfl) (fun a => by simp -failIfUnchanged <;> omega) ?_
    refine TE_q rfl rfl (RD.move rfl) rfl ?_
    refine TE_q rfl rfl (RD.as (v := .bool true) (RD.not rfl) rfl) rfl ?_
    refine TE_q rfl rfl (RD.move rfl) rfl ?_
    refine TE_s rfl rfl rfl rfl rfl ?_
    refine TE_s rfl rfl rfl rfl rfl ?_
    refine TE_s rfl rfl rfl rfl rfl ?_
    refine TE_q rfl rfl (RD.pickT rfl rfl) rfl ?_
    refine TE_q rfl rfl (RD.move rfl) rfl ?_
    refine TE_s rfl rfl rfl rfl rfl ?_
    refine TE_s rfl rfl rfl rfl rfl ?_
    refine TE_s rfl rfl rfl rfl rfl ?_
    refine TE_s rfl rfl rfl rfl rfl ?_
    refine TE_s rfl rfl rfl rfl rfl ?_
    refine TE_q rfl rfl (RD.pickT rfl rfl) rfl ?_
    refine TE_nil ?_
    refine pn_condT rfl ?_
    refine pn_seq ?_
    refine pn_plainG [] [] rfl (fun a => by simp -failIfUnchanged <;> omega) ?_
    refine TE_q rfl rfl (RD.assign rfl) rfl ?_
    refine TE_nil0 ?_
    refine pn_ret ?_
    exact pn_doneS [] rfl rfl ⟨(congrArg (Value.int .i64) (chkF (chk0 hk5 hk6 hk7 hk8) rfl)), rfl⟩ (fun _ => Nat.zero_le _) (fun _ he => nomatch he)

end Go.Proofs.YtloljpefdecmhaaGreatDoor

namespace Go.Proofs.YtloljpefdecmhaaGreatDoor
open Go Go.Mv
set_option maxRecDepth 8000
attribute [simp] entsL_len parsL_len
def pf (P : List Lnk) : List (Nat → Int) → List Lnk
  | [] => P
  | p :: l => pf (P ++ [⟨3, p⟩]) l
@[simp] theorem pf_nil (P : List Lnk) : pf P [] = P := rfl
theorem pf_eq : ∀ (P : List Lnk) (l : List (Nat → Int)), pf P l = P ++ parsL l
  | P, [] => by simp
  | P, p :: l => by rw [pf, pf_eq]; simp [parsL]
@[simp] theorem pf_len (P : List Lnk) (l : List (Nat → Int)) : (pf P l).length = P.length + l.length := by rw [pf_eq]; simp
theorem c_obLinks (x : Ob) (xd : Value) (xe : Value) (xp : Value) (HX : Mem) (w : World) (hbxd : Rdb HX xd x.data) (hbxe : Rdx 34 (entC) HX xe x.ents) (hbxp : Rdx 32 (idC) HX xp x.pars) (hox : ObOk x) (hH : Hp HX w) : Calls Tryz.prog 40 #[objV x xd xe xp] w (Ret w [] fun v H1 => ∃ st, BldOk 33 (lnkC) (linksL x) st ∧ v = bldVx (linksL x) st ∧ H1 = bldMx 46 (lnkC) (linksL x) st) := by
  have hw1 := hox.d; have hw2 := hox.e; have hw3 := hox.p; have hw4 := hox.m; have hwe := hox.en
  refine fn_enter (args := [_]) Tryz.func40 rfl Tryz.ntmps40 rfl hH ?_
  refine pn_seq ?_
  refine pn_plain [] rfl ?_
  refine TE_boxC (objV x xd xe xp).cells rfl rfl rfl trivial rfl fun b1 hb1 => ?_
  refine TE_q rfl rfl (RD.assign rfl) rfl ?_
  refine TE_nil0 ?_
  refine pn_seq ?_
  refine pn_seq ?_
  refine pn_plain [] rfl ?_
  refine TE_l rfl rfl trivial rfl (RD.loadA (i := 0) Tryz.isAgg48 Tryz.sizeOf48 rfl rfl (Nat.le_of_ble_eq_true rfl) (obj_all _ _ _ _)) rfl ?_
  refine TE_callG _ HX rfl rfl trivial Tryz.call33 rfl rfl rfl (fun w hw => c_obCheck x xd xe xp HX w (hbxd.mono (fun _ hw => hw.sp (fun a => by simp -failIfUnchanged <;> omega))) (hbxe.mono (fun _ hw => hw.sp (fun a => by simp -failIfUnchanged <;> omega))) (hbxp.mono (fun _ hw => hw.sp (fun a => by simp -failIfUnchanged <;> omega))) hox (hw.sp (fun a => by simp -failIfUnchanged <;> omega))) (fun a => by simp -failIfUnchanged <;> omega) ?_
  rintro v1 H2 ⟨rfl, rfl⟩ -
  refine TE_q rfl rfl (RD.neq rfl rfl) rfl ?_
  refine TE_nil0 ?_
  refine pn_condN rfl (fun hc3 => ?_) (fun hc3 => ?_)
  · refine pn_seq ?_
    refine pn_plainG [] [] rfl (fun a => by simp -failIfUnchanged <;> omega) ?_
    refine TE_q rfl rfl (RD.assign rfl) rfl ?_
    refine TE_nil0 ?_
    refine pn_ret ?_
    exact pn_doneS [] rfl rfl ⟨none, (show linksL x = [] from (by simp [linksL, err1 hc3])), rfl, rfl⟩ (fun _ => Nat.zero_le _) (fun _ he => nomatch he)
  · refine pn_skip ?_
    refine pn_seq ?_
    refine pn_plain [] rfl ?_
    refine TE_l rfl rfl trivial rfl (RD.loadA (i := 0) Tryz.isAgg48 Tryz.sizeOf48 rfl rfl (Nat.le_of_ble_eq_true rfl) (obj_all _ _ _ _)) rfl ?_
    refine TE_callG _ HX rfl rfl trivial Tryz.call61 rfl rfl rfl (fun w hw => c_of7 x xd xe xp HX w (hbxd.mono (fun _ hw => hw.sp (fun a => by simp -failIfUnchanged <;> omega))) (hbxe.mono (fun _ hw => hw.sp (fun a => by simp -failIfUnchanged <;> omega))) (hbxp.mono (fun _ hw => hw.sp (fun a => by simp -failIfUnchanged <;> omega))) hox (hw.sp (fun a => by simp -failIfUnchanged <;> omega))) (fun a => by simp -failIfUnchanged <;> omega) ?_
    rintro v12 H13 (⟨hk4, rfl, rfl⟩ | ⟨hk5, rfl, rfl⟩ | ⟨hk6, rfl, rfl⟩ | ⟨hk7, rfl, rfl⟩ | ⟨⟨⟨⟨hk8, hk9⟩, hk10⟩, hk11⟩, rfl, rfl⟩) hX14
    · refine TE_q rfl rfl (RD.move rfl) rfl ?_
      refine TE_q rfl rfl (RD.extract rfl rfl) rfl ?_
      refine TE_q rfl rfl (RD.extract rfl rfl) rfl ?_
      refine TE_q rfl rfl (RD.assign rfl) rfl ?_
      refine TE_q rfl rfl (RD.assign rfl) rfl ?_
      refine TE_nil0 ?_
      refine pn_seq ?_
      refine pn_plainG [] HX rfl (fun a => by simp -failIfUnchanged <;> omega) ?_
      refine TE_q rfl rfl (RD.move rfl) rfl ?_
      refine TE_invM _ [] HX HX inv_blob_links rfl rfl trivial rfl rfl rfl own0 (fun a => by simp -failIfUnchanged <;> omega) (fun w hw => c_blobLinks x xd xe xp HX w (hbxd.mono (fun _ hw => hw.sp (fun a => by simp -failIfUnchanged <;> omega))) (hbxe.mono (fun _ hw => hw.sp (fun a => by simp -failIfUnchanged <;> omega))) (hbxp.mono (fun _ hw => hw.sp (fun a => by simp -failIfUnchanged <;> omega))) hox (hw.sp (fun a => by simp -failIfUnchanged <;> omega))) (fun a => by simp -failIfUnchanged <;> omega) ?_
      rintro v19 H20 ⟨st15, hbo16, rfl, rfl⟩ hX17
      have hRD18 : Rdx 33 (lnkC) (bldMx 46 (lnkC) ([] : List Lnk) st15) (bldVx ([] : List Lnk) st15) ([] : List Lnk) := hbo16.rdx (u := 46) lnkC_len
      refine TE_sp ((bldMx 46 (lnkC) ([] : List Lnk) st15) ++ HX) (fun a => by simp -failIfUnchanged <;> omega) ?_
      refine TE_q rfl rfl (RD.assign rfl) rfl ?_
      refine TE_nil0 ?_
      refine pn_ret ?_
      have he21 : ([] : List Lnk) = linksL x := (by simp [linksL, lnksL, err0 hc3, hk4, entsL, parsL])
      exact pn_doneS (bldMx 46 (lnkC) ([] : List Lnk) st15) rfl rfl ⟨st15, (by rw [← he21]; exact hbo16), (by rw [← he21]; rfl), (by rw [← he21])⟩ (fun a => by simp -failIfUnchanged <;> omega) hX17
    · refine TE_q rfl rfl (RD.move rfl) rfl ?_
      refine TE_q rfl rfl (RD.extract rfl rfl) rfl ?_
      refine TE_q rfl rfl (RD.extract rfl rfl) rfl ?_
      refine TE_q rfl rfl (RD.assign rfl) rfl ?_
      refine TE_q rfl rfl (RD.assign rfl) rfl ?_
      refine TE_nil0 ?_
      refine pn_seq ?_
      refine pn_plainG [] HX rfl (fun a => by simp -failIfUnchanged <;> omega) ?_
      refine TE_q rfl rfl (RD.move rfl) rfl ?_
      refine TE_invM _ [] HX HX inv_tree_links rfl rfl trivial rfl rfl rfl own0 (fun a => by simp -failIfUnchanged <;> omega) (fun w hw => c_treeLinks x xd xe xp HX w (hbxd.mono (fun _ hw => hw.sp (fun a => by simp -failIfUnchanged <;> omega))) (hbxe.mono (fun _ hw => hw.sp (fun a => by simp -failIfUnchanged <;> omega))) (hbxp.mono (fun _ hw => hw.sp (fun a => by simp -failIfUnchanged <;> omega))) hox (hw.sp (fun a => by simp -failIfUnchanged <;> omega))) (fun a => by simp -failIfUnchanged <;> omega) ?_
      rintro v26 H27 ⟨st22, hbo23, rfl, rfl⟩ hX24
      have hRD25 : Rdx 33 (lnkC) (bldMx 46 (lnkC) (entsL x.ents) st22) (bldVx (entsL x.ents) st22) (entsL x.ents) := hbo23.rdx (u := 46) lnkC_len
      refine TE_sp ((bldMx 46 (lnkC) (entsL x.ents) st22) ++ HX) (fun a => by simp -failIfUnchanged <;> omega) ?_
      refine TE_q rfl rfl (RD.assign rfl) rfl ?_
      refine TE_nil0 ?_
      refine pn_ret ?_
      have he28 : (entsL x.ents) = linksL x := (by simp [linksL, lnksL, err0 hc3, hk5, entsL, parsL])
      exact pn_doneS (bldMx 46 (lnkC) (entsL x.ents) st22) rfl rfl ⟨st22, (by rw [← he28]; exact hbo23), (by rw [← he28]; rfl), (by rw [← he28])⟩ (fun a => by simp -failIfUnchanged <;> omega) hX24
    · refine TE_q rfl rfl (RD.move rfl) rfl ?_
      refine TE_q rfl rfl (RD.extract rfl rfl) rfl ?_
      refine TE_q rfl rfl (RD.extract rfl rfl) rfl ?_
      refine TE_q rfl rfl (RD.assign rfl) rfl ?_
      refine TE_q rfl rfl (RD.assign rfl) rfl ?_
      refine TE_nil0 ?_
      refine pn_seq ?_
      refine pn_plainG [] HX rfl (fun a => by simp -failIfUnchanged <;> omega) ?_
      refine TE_q rfl rfl (RD.move rfl) rfl ?_
      refine TE_invM _ [] HX HX inv_commit_links rfl rfl trivial rfl rfl rfl own0 (fun a => by simp -failIfUnchanged <;> omega) (fun w hw => c_commitLinks x xd xe xp HX w (hbxd.mono (fun _ hw => hw.sp (fun a => by simp -failIfUnchanged <;> omega))) (hbxe.mono (fun _ hw => hw.sp (fun a => by simp -failIfUnchanged <;> omega))) (hbxp.mono (fun _ hw => hw.sp (fun a => by simp -failIfUnchanged <;> omega))) hox (hw.sp (fun a => by simp -failIfUnchanged <;> omega))) (fun a => by simp -failIfUnchanged <;> omega) ?_
      rintro v33 H34 ⟨st29, hbo30, rfl, rfl⟩ hX31
      have hRD32 : Rdx 33 (lnkC) (bldMx 46 (lnkC) ((⟨2, x.t⟩ : Lnk) :: parsL x.pars) st29) (bldVx ((⟨2, x.t⟩ : Lnk) :: parsL x.pars) st29) ((⟨2, x.t⟩ : Lnk) :: parsL x.pars) := hbo30.rdx (u := 46) lnkC_len
      refine TE_sp ((bldMx 46 (lnkC) ((⟨2, x.t⟩ : Lnk) :: parsL x.pars) st29) ++ HX) (fun a => by simp -failIfUnchanged <;> omega) ?_
      refine TE_q rfl rfl (RD.assign rfl) rfl ?_
      refine TE_nil0 ?_
      refine pn_ret ?_
      have he35 : ((⟨2, x.t⟩ : Lnk) :: parsL x.pars) = linksL x := (by simp [linksL, lnksL, err0 hc3, hk6, entsL, parsL])
      exact pn_doneS (bldMx 46 (lnkC) ((⟨2, x.t⟩ : Lnk) :: parsL x.pars) st29) rfl rfl ⟨st29, (by rw [← he35]; exact hbo30), (by rw [← he35]; rfl), (by rw [← he35])⟩ (fun a => by simp -failIfUnchanged <;> omega) hX31
    · refine TE_q rfl rfl (RD.move rfl) rfl ?_
      refine TE_q rfl rfl (RD.extract rfl rfl) rfl ?_
      refine TE_q rfl rfl (RD.extract rfl rfl) rfl ?_
      refine TE_q rfl rfl (RD.assign rfl) rfl ?_
      refine TE_q rfl rfl (RD.assign rfl) rfl ?_
      refine TE_nil0 ?_
      refine pn_seq ?_
      refine pn_plainG [] HX rfl (fun a => by simp -failIfUnchanged <;> omega) ?_
      refine TE_q rfl rfl (RD.move rfl) rfl ?_
      refine TE_invM _ [] HX HX inv_tag_links rfl rfl trivial rfl rfl rfl own0 (fun a => by simp -failIfUnchanged <;> omega) (fun w hw => c_tagLinks x xd xe xp HX w (hbxd.mono (fun _ hw => hw.sp (fun a => by simp -failIfUnchanged <;> omega))) (hbxe.mono (fun _ hw => hw.sp (fun a => by simp -failIfUnchanged <;> omega))) (hbxp.mono (fun _ hw => hw.sp (fun a => by simp -failIfUnchanged <;> omega))) hox (hw.sp (fun a => by simp -failIfUnchanged <;> omega))) (fun a => by simp -failIfUnchanged <;> omega) ?_
      rintro v40 H41 ⟨st36, hbo37, rfl, rfl⟩ hX38
      have hRD39 : Rdx 33 (lnkC) (bldMx 46 (lnkC) [x.tg] st36) (bldVx [x.tg] st36) [x.tg] := hbo37.rdx (u := 46) lnkC_len
      refine TE_sp ((bldMx 46 (lnkC) [x.tg] st36) ++ HX) (fun a => by simp -failIfUnchanged <;> omega) ?_
      refine TE_q rfl rfl (RD.assign rfl) rfl ?_
      refine TE_nil0 ?_
      refine pn_ret ?_
      have he42 : [x.tg] = linksL x := (by simp [linksL, lnksL, err0 hc3, hk7, entsL, parsL])
      exact pn_doneS (bldMx 46 (lnkC) [x.tg] st36) rfl rfl ⟨st36, (by rw [← he42]; exact hbo37), (by rw [← he42]; rfl), (by rw [← he42])⟩ (fun a => by simp -failIfUnchanged <;> omega) hX38
    · exact absurd ((chk0 hk8 hk9 hk10 hk11).symm.trans (err0 hc3)) (by decide)

end Go.Proofs.YtloljpefdecmhaaGreatDoor

namespace Go.Proofs.YtloljpefdecmhaaGreatDoor
open Go Go.Mv
set_option maxRecDepth 8000
theorem lnksL_len (x : Ob) (h : ObOk x) : (linksL x).length ≤ 1000 := by
  have h1 := h.e; have h2 := h.p
  unfold linksL lnksL
  repeat' split
  all_goals simp
  all_goals omega
end Go.Proofs.YtloljpefdecmhaaGreatDoor
