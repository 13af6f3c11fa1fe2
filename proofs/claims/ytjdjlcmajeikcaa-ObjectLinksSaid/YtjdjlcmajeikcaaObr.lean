import Derived.Test.YtjdjlcmajeikcaaObq
namespace Go.Proofs.Ytjdjlcmajeikcaa
open Go Go.Mv
set_option maxRecDepth 8000
theorem obSame_self (x : Ob) : obSame x x = true := by simp [obSame, sameG_self same_ent_self, sameN_self, sameIL_refl, same_lnk_self]
theorem bvx_len {α : Type} {l l' : List α} (h : l.length = l'.length) (st : SnkS) : bldVx l st = bldVx l' st := by
  rcases st with _ | ⟨b, cap, tl⟩
  · rfl
  · simp only [bldVx, h]
theorem nil_of {α : Type} {l : List α} (h : (!decide (0 < (l.length : Int))) = true) : l = [] := by
  have h : ¬ 0 < (l.length : Int) := by simpa using h
  cases l with
  | nil => rfl
  | cons a l => exact absurd (by simp) h
theorem links_eq (x : Ob) : linksL x = rLinks x := by
  unfold linksL rLinks
  by_cases hok : obOkB x = true
  · rw [if_pos hok, if_pos hok]
    have nil_p : (!(decide (0 < (x.pars.length : Int)) || !idZ x.t)) = true → x.pars = [] := fun h => by
      rw [Bool.not_or, Bool.and_eq_true] at h; exact nil_of h.1
    by_cases h1 : x.k = 1
    · have h := hok; rw [chk1 h1] at h; simp only [Bool.and_eq_true] at h
      rw [nil_of h.2.1, nil_p h.2.2.1]; simp [lnksL, h1]
    by_cases h2 : x.k = 2
    · have h := hok; rw [chk2 h2] at h; simp only [Bool.and_eq_true] at h
      rw [nil_p h.2.2.1]; simp [lnksL, h2]
    by_cases h3 : x.k = 3
    · have h := hok; rw [chk3 h3] at h; simp only [Bool.and_eq_true] at h
      rw [nil_of h.2.2.2.1]; simp [lnksL, h3]
    by_cases h4 : x.k = 4
    · have h := hok; rw [chk4 h4] at h; simp only [Bool.and_eq_true] at h
      rw [nil_of h.2.2.2.2.1, nil_p h.2.2.2.2.2]; simp [lnksL, h4]
    · rw [chk0 h1 h2 h3 h4] at hok; cases hok
  · rw [if_neg hok, if_neg hok]
theorem links_same (x : Ob) : sameGL same_lnk (linksL x) (rLinks x) = true := by rw [links_eq]; exact sameG_self same_lnk_self _
theorem lnksL_len (x : Ob) (h : ObOk x) : (linksL x).length ≤ 1000 := by
  have h1 := h.e; have h2 := h.p
  unfold linksL lnksL
  repeat' split
  all_goals simp
  all_goals omega
theorem rLinks_len (x : Ob) (h : ObOk x) : (rLinks x).length ≤ 1000 := by rw [← links_eq]; exact lnksL_len x h

theorem c_ObjectLinks (x : Ob) (xd : Value) (xe : Value) (xp : Value) (y : Ob) (yd : Value) (ye : Value) (yp : Value) (HX : Mem) (w : World) (hbxd : Rdb HX xd x.data) (hbxe : Rdx 34 (entC) HX xe x.ents) (hbxp : Rdx 32 (idC) HX xp x.pars) (hox : ObW x) (hbyd : Rdb HX yd y.data) (hbye : Rdx 34 (entC) HX ye y.ents) (hbyp : Rdx 32 (idC) HX yp y.pars) (hoy : ObW y) (hH : Hp HX w) : Calls Try.prog 3 #[objV x xd xe xp, objV y yd ye yp] w (Ret w [] fun v H1 => v = .bool true ∧ H1 = []) := by
  refine fn_enter (args := [_, _]) Try.func3 rfl Try.ntmps3 rfl hH ?_
  refine pn_seq ?_
  refine pn_plain [] rfl ?_
  refine TE_boxC (objV x xd xe xp).cells rfl rfl rfl trivial rfl fun b2 hb2 => ?_
  refine TE_boxC (objV y yd ye yp).cells rfl rfl rfl trivial rfl fun b3 hb3 => ?_
  refine TE_q rfl rfl (RD.assign rfl) rfl ?_
  refine TE_nil0 ?_
  refine pn_seq ?_
  refine pn_seq ?_
  refine pn_plain [] rfl ?_
  refine TE_l rfl rfl trivial rfl (RD.loadA (i := 1) Try.isAgg30 Try.sizeOf30 rfl rfl (Nat.le_of_ble_eq_true rfl) (obj_all _ _ _ _)) rfl ?_
  refine TE_callG _ HX rfl rfl trivial Try.call5 rfl rfl rfl (fun w hw => c_great x xd xe xp HX w (hbxd.mono (fun _ hw => hw.sp (fun a => by simp -failIfUnchanged <;> omega))) (hbxe.mono (fun _ hw => hw.sp (fun a => by simp -failIfUnchanged <;> omega))) (hbxp.mono (fun _ hw => hw.sp (fun a => by simp -failIfUnchanged <;> omega))) hox (hw.sp (fun a => by simp -failIfUnchanged <;> omega))) (fun a => by simp -failIfUnchanged <;> omega) ?_
  rintro v1 H2 ⟨rfl, rfl⟩ -
  refine TE_q rfl rfl (RD.gtr rfl rfl) rfl ?_
  refine TE_q rfl rfl (RD.move rfl) rfl ?_
  refine TE_join (σ := Unit) (fun _ => [(2, .pointer (some ⟨b2, 0, none⟩)), (3, .pointer (some ⟨b3, 0, none⟩)), (20, .bool ((decide (0 < (greatI x))) || (decide (0 < (greatI y)))))]) (fun _ => ((b3, .cells (objV y yd ye yp).cells 30 (0, 0)) :: (b2, .cells (objV x xd xe xp).cells 30 (0, 0)) :: HX)) (fun _ => True) ?_ ?_
  · refine TE_dec (fun hf3 => ?_) (fun hf3 => ?_)
    · refine TE_s rfl rfl rfl rfl rfl ?_
      refine TE_s rfl rfl rfl rfl rfl ?_
      refine TE_s rfl rfl rfl rfl rfl ?_
      refine TE_q rfl rfl (RD.pickT rfl rfl) rfl ?_
      refine TE_nil0 ?_
      exact pn_give () trivial ⟨rfl, rfl, congrArg (fun b => some (Value.bool b)) (by first | (simp [hf3]; done) | (simp only [decide_eq_true hf3]; rfl)), trivial⟩ (fun _ hw => hw.sp (fun a => by simp -failIfUnchanged <;> omega))
    · refine TE_l rfl rfl ⟨_, rfl, rfl⟩ rfl (RD.loadA (i := 0) Try.isAgg30 Try.sizeOf30 rfl rfl (Nat.le_of_ble_eq_true rfl) (obj_all _ _ _ _)) rfl ?_
      refine TE_callG _ HX rfl rfl ⟨_, rfl, rfl⟩ Try.call5 rfl rfl rfl (fun w hw => c_great y yd ye yp HX w (hbyd.mono (fun _ hw => hw.sp (fun a => by simp -failIfUnchanged <;> omega))) (hbye.mono (fun _ hw => hw.sp (fun a => by simp -failIfUnchanged <;> omega))) (hbyp.mono (fun _ hw => hw.sp (fun a => by simp -failIfUnchanged <;> omega))) hoy (hw.sp (fun a => by simp -failIfUnchanged <;> omega))) (fun a => by simp -failIfUnchanged <;> omega) ?_
      rintro v4 H5 ⟨rfl, rfl⟩ -
      refine TE_gq rfl rfl rfl rfl (RD.gtr rfl rfl) rfl ?_
      refine TE_q rfl rfl (RD.pickF rfl rfl) rfl ?_
      refine TE_nil0 ?_
      exact pn_give () trivial ⟨rfl, rfl, congrArg (fun b => some (Value.bool b)) (by first | (simp [hf3]; done) | (simp only [decide_eq_false hf3]; rfl)), trivial⟩ (fun _ hw => hw.sp (fun a => by simp -failIfUnchanged <;> omega))
  rintro _ -
  refine pn_cond rfl (fun hc6 => ?_) (fun hc6 => ?_)
  · simp only [Bool.or_eq_true, decide_eq_true_eq] at hc6
    refine pn_seq ?_
    refine pn_plainG [] [] rfl (fun a => by simp -failIfUnchanged <;> omega) ?_
    refine TE_q rfl rfl (RD.assign rfl) rfl ?_
    refine TE_nil0 ?_
    refine pn_ret ?_
    exact pn_doneS [] rfl rfl ⟨rfl, rfl⟩ (fun _ => Nat.zero_le _) (fun _ he => nomatch he)
  · simp only [Bool.or_eq_false_iff, decide_eq_false_iff_not] at hc6
    have hkx := great_ok hox hc6.1
    have hky := great_ok hoy hc6.2
    have hx1 := hkx.d; have hx2 := hkx.e; have hx3 := hkx.p; have hx4 := hkx.m; have hy2 := hky.e; have hy3 := hky.p
    have hxll := lnksL_len x hkx
    refine pn_skip ?_
    refine pn_seq ?_
    refine pn_plain [] rfl ?_
    refine TE_l rfl rfl trivial rfl (RD.loadA (i := 1) Try.isAgg30 Try.sizeOf30 rfl rfl (Nat.le_of_ble_eq_true rfl) (obj_all _ _ _ _)) rfl ?_
    refine TE_callG _ HX rfl rfl trivial Try.call6 rfl rfl rfl (fun w hw => c_r7Copy x xd xe xp HX w (hbxd.mono (fun _ hw => hw.sp (fun a => by simp -failIfUnchanged <;> omega))) (hbxe.mono (fun _ hw => hw.sp (fun a => by simp -failIfUnchanged <;> omega))) (hbxp.mono (fun _ hw => hw.sp (fun a => by simp -failIfUnchanged <;> omega))) hkx (hw.sp (fun a => by simp -failIfUnchanged <;> omega))) (fun a => by simp -failIfUnchanged <;> omega) ?_
    rintro v17 H18 ⟨st8, st11, st14, hbo9, hbo12, hbo15, rfl, rfl⟩ hX7
    have hRD10 : Rdx 1 (byteC) (bldMx 5 (byteC) x.data st8) (bldVx x.data st8) x.data := hbo9.rdx (u := 5) byteC_len
    have hRD13 : Rdx 34 (entC) (bldMx 38 (entC) x.ents st11) (bldVx x.ents st11) x.ents := hbo12.rdx (u := 38) entC_len
    have hRD16 : Rdx 32 (idC) (bldMx 25 (idC) x.pars st14) (bldVx x.pars st14) x.pars := hbo15.rdx (u := 25) idC_len
    refine TE_sp ((b3, .cells (objV y yd ye yp).cells 30 (0, 0)) :: (b2, .cells (objV x xd xe xp).cells 30 (0, 0)) :: ((bldMx 5 (byteC) x.data st8) ++ ((bldMx 38 (entC) x.ents st11) ++ ((bldMx 25 (idC) x.pars st14) ++ HX)))) (fun a => by simp -failIfUnchanged <;> omega) ?_
    refine TE_allocC (objV (⟨0, [], [], (fun _ => 0), [], (⟨0, (fun _ => 0)⟩ : Lnk), ⟨#[]⟩⟩ : Ob) (.slice none 0 0) (.slice none 0 0) (.slice none 0 0)).cells rfl Try.zeroValue30 rfl trivial rfl fun b5 hb5 => ?_
    refine TE_putCW 0 (objV (⟨0, [], [], (fun _ => 0), [], (⟨0, (fun _ => 0)⟩ : Lnk), ⟨#[]⟩⟩ : Ob) (.slice none 0 0) (.slice none 0 0) (.slice none 0 0)).cells (objV x (bldVx x.data st8) (bldVx x.ents st11) (bldVx x.pars st14)).cells ((b5, .cells (objV x (bldVx x.data st8) (bldVx x.ents st11) (bldVx x.pars st14)).cells 30 (0, 0)) :: (b3, .cells (objV y yd ye yp).cells 30 (0, 0)) :: (b2, .cells (objV x xd xe xp).cells 30 (0, 0)) :: ((bldMx 5 (byteC) x.data st8) ++ ((bldMx 38 (entC) x.ents st11) ++ ((bldMx 25 (idC) x.pars st14) ++ HX)))) rfl Try.sizeOf30 trivial rfl rfl rfl (objV_one _ _ _ _ (bvx_one _ _) (bvx_one _ _) (bvx_one _ _)) rfl rfl rfl rfl (.inl hb5) ?_
    refine TE_nil0 ?_
    refine pn_seq ?_
    refine pn_plain [] rfl ?_
    refine TE_l rfl rfl trivial rfl (RD.loadA (i := 0) Try.isAgg30 Try.sizeOf30 rfl rfl (Nat.le_of_ble_eq_true rfl) (obj_all _ _ _ _)) rfl ?_
    refine TE_callG _ ((bldMx 5 (byteC) x.data st8) ++ ((bldMx 38 (entC) x.ents st11) ++ (bldMx 25 (idC) x.pars st14))) rfl rfl trivial Try.call7 rfl rfl rfl (fun w hw => c_obLinks x (bldVx x.data st8) (bldVx x.ents st11) (bldVx x.pars st14) ((bldMx 5 (byteC) x.data st8) ++ ((bldMx 38 (entC) x.ents st11) ++ (bldMx 25 (idC) x.pars st14))) w ((Rdb.of_x hRD10).mono (fun _ hw => hw.sp (fun a => by simp -failIfUnchanged <;> omega))) (hRD13.mono (fun _ hw => hw.sp (fun a => by simp -failIfUnchanged <;> omega))) (hRD16.mono (fun _ hw => hw.sp (fun a => by simp -failIfUnchanged <;> omega))) hkx (hw.sp (fun a => by simp -failIfUnchanged <;> omega))) (fun a => by simp -failIfUnchanged <;> omega) ?_
    rintro v23 H24 ⟨st19, hbo20, rfl, rfl⟩ hX21
    have hRD22 : Rdx 33 (lnkC) (bldMx 28 (lnkC) (linksL x) st19) (bldVx (linksL x) st19) (linksL x) := hbo20.rdx (u := 28) lnkC_len
    refine TE_sp ((b5, .cells (objV x (bldVx x.data st8) (bldVx x.ents st11) (bldVx x.pars st14)).cells 30 (0, 0)) :: (b3, .cells (objV y yd ye yp).cells 30 (0, 0)) :: (b2, .cells (objV x xd xe xp).cells 30 (0, 0)) :: ((bldMx 28 (lnkC) (linksL x) st19) ++ ((bldMx 5 (byteC) x.data st8) ++ ((bldMx 38 (entC) x.ents st11) ++ ((bldMx 25 (idC) x.pars st14) ++ HX))))) (fun a => by simp -failIfUnchanged <;> omega) ?_
    refine TE_q rfl rfl (RD.assign rfl) rfl ?_
    refine TE_nil0 ?_
    refine pn_seq ?_
    refine pn_drawG [1, 5, 6, 8, 9] [] ((b5, .cells (objV x (bldVx x.data st8) (bldVx x.ents st11) (bldVx x.pars st14)).cells 30 (0, 0)) :: (b3, .cells (objV y yd ye yp).cells 30 (0, 0)) :: (b2, .cells (objV x xd xe xp).cells 30 (0, 0)) :: ((bldMx 28 (lnkC) (linksL x) st19) ++ ((bldMx 5 (byteC) x.data st8) ++ ((bldMx 38 (entC) x.ents st11) ++ ((bldMx 25 (idC) x.pars st14) ++ HX))))) rfl rfl (by kernel_rfl) (fun a => by simp -failIfUnchanged <;> omega) ?_
    refine TE_q rfl rfl (RD.move rfl) rfl ?_
    refine TE_q rfl rfl (RD.loadA (i := 2) Try.isAgg30 Try.sizeOf30 rfl rfl (Nat.le_of_ble_eq_true rfl) (obj_all _ _ _ _)) rfl ?_
    refine TE_callG _ HX rfl rfl trivial Try.call9 rfl rfl rfl (fun w hw => c_r7Links x xd xe xp HX w (hbxd.mono (fun _ hw => hw.sp (fun a => by simp -failIfUnchanged <;> omega))) (hbxe.mono (fun _ hw => hw.sp (fun a => by simp -failIfUnchanged <;> omega))) (hbxp.mono (fun _ hw => hw.sp (fun a => by simp -failIfUnchanged <;> omega))) hkx (hw.sp (fun a => by simp -failIfUnchanged <;> omega))) (fun a => by simp -failIfUnchanged <;> omega) ?_
    rintro v29 H30 ⟨st25, hbo26, rfl, rfl⟩ hX27
    have hRD28 : Rdx 33 (lnkC) (bldMx 28 (lnkC) (rLinks x) st25) (bldVx (rLinks x) st25) (rLinks x) := hbo26.rdx (u := 28) lnkC_len
    refine TE_sp (bldMx 28 (lnkC) (rLinks x) st25) (fun a => by simp -failIfUnchanged <;> omega) ?_
    refine TE_callG _ ((bldMx 28 (lnkC) (rLinks x) st25) ++ (bldMx 28 (lnkC) (linksL x) st19)) rfl rfl trivial Try.call8 rfl rfl rfl (fun w hw => (by have h := c_r7Lists (bldVx (linksL x) st19) (linksL x) (bldVx (rLinks x) st25) (rLinks x) ((bldMx 28 (lnkC) (rLinks x) st25) ++ (bldMx 28 (lnkC) (linksL x) st19)) w (hRD22.mono (fun _ hw => hw.sp (fun a => by simp -failIfUnchanged <;> omega))) (Nat.le_trans (lnksL_len x hkx) (by decide)) (hRD28.mono (fun _ hw => hw.sp (fun a => by simp -failIfUnchanged <;> omega))) (Nat.le_trans (rLinks_len x hkx) (by decide)) (hw.sp (fun a => by simp -failIfUnchanged <;> omega)); rw [show (sameGL same_lnk (linksL x) (rLinks x)) = true from links_same x] at h; exact h)) (fun a => by simp -failIfUnchanged <;> omega) ?_
    rintro v31 H32 ⟨rfl, rfl⟩ -
    refine TE_q rfl rfl (RD.move rfl) rfl ?_
    refine TE_gq rfl rfl rfl rfl (RD.loadA (i := 0) Try.isAgg30 Try.sizeOf30 rfl rfl (Nat.le_of_ble_eq_true rfl) (obj_all _ _ _ _)) rfl ?_
    refine TE_gq rfl rfl rfl rfl (RD.loadA (i := 1) Try.isAgg30 Try.sizeOf30 rfl rfl (Nat.le_of_ble_eq_true rfl) (obj_all _ _ _ _)) rfl ?_
    refine TE_callG _ ((bldMx 5 (byteC) x.data st8) ++ ((bldMx 38 (entC) x.ents st11) ++ ((bldMx 25 (idC) x.pars st14) ++ HX))) rfl rfl ⟨_, rfl, rfl⟩ Try.call10 rfl rfl rfl (fun w hw => c_obSame x (bldVx x.data st8) (bldVx x.ents st11) (bldVx x.pars st14) y yd ye yp ((bldMx 5 (byteC) x.data st8) ++ ((bldMx 38 (entC) x.ents st11) ++ ((bldMx 25 (idC) x.pars st14) ++ HX))) w ((Rdb.of_x hRD10).mono (fun _ hw => hw.sp (fun a => by simp -failIfUnchanged <;> omega))) (hRD13.mono (fun _ hw => hw.sp (fun a => by simp -failIfUnchanged <;> omega))) (hRD16.mono (fun _ hw => hw.sp (fun a => by simp -failIfUnchanged <;> omega))) (hbyd.mono (fun _ hw => hw.sp (fun a => by simp -failIfUnchanged <;> omega))) (hbye.mono (fun _ hw => hw.sp (fun a => by simp -failIfUnchanged <;> omega))) (hbyp.mono (fun _ hw => hw.sp (fun a => by simp -failIfUnchanged <;> omega))) ⟨(by first | omega | (dsimp only [List.length_nil]; omega) | simp), (by first | omega | (dsimp only [List.length_nil]; omega) | simp)⟩ ⟨(by first | omega | (dsimp only [List.length_nil]; omega) | simp), (by first | omega | (dsimp only [List.length_nil]; omega) | simp)⟩ (hw.sp (fun a => by simp -failIfUnchanged <;> omega))) (fun a => by simp -failIfUnchanged <;> omega) ?_
    rintro v33 H34 ⟨rfl, rfl⟩ -
    refine TE_gq rfl rfl rfl rfl (RD.loadA (i := 2) Try.isAgg30 Try.sizeOf30 rfl rfl (Nat.le_of_ble_eq_true rfl) (obj_all _ _ _ _)) rfl ?_
    refine TE_gq rfl rfl rfl rfl (RD.loadA (i := 1) Try.isAgg30 Try.sizeOf30 rfl rfl (Nat.le_of_ble_eq_true rfl) (obj_all _ _ _ _)) rfl ?_
    refine TE_callG _ HX rfl rfl ⟨_, rfl, rfl⟩ Try.call11 rfl rfl rfl (fun w hw => c_r7Same x xd xe xp y yd ye yp HX w (hbxd.mono (fun _ hw => hw.sp (fun a => by simp -failIfUnchanged <;> omega))) (hbxe.mono (fun _ hw => hw.sp (fun a => by simp -failIfUnchanged <;> omega))) (hbxp.mono (fun _ hw => hw.sp (fun a => by simp -failIfUnchanged <;> omega))) (hbyd.mono (fun _ hw => hw.sp (fun a => by simp -failIfUnchanged <;> omega))) (hbye.mono (fun _ hw => hw.sp (fun a => by simp -failIfUnchanged <;> omega))) (hbyp.mono (fun _ hw => hw.sp (fun a => by simp -failIfUnchanged <;> omega))) ⟨(by first | omega | (dsimp only [List.length_nil]; omega) | simp), (by first | omega | (dsimp only [List.length_nil]; omega) | simp)⟩ ⟨(by first | omega | (dsimp only [List.length_nil]; omega) | simp), (by first | omega | (dsimp only [List.length_nil]; omega) | simp)⟩ (hw.sp (fun a => by simp -failIfUnchanged <;> omega))) (fun a => by simp -failIfUnchanged <;> omega) ?_
    rintro v35 H36 ⟨rfl, rfl⟩ -
    refine TE_gq rfl rfl rfl rfl (RD.as (v := .bool true) (RD.eql_bool Try.runUnderlying4 rfl rfl) (congrArg Value.bool (by simp))) rfl ?_
    refine TE_q rfl rfl (RD.pickT rfl rfl) rfl ?_
    refine TE_q rfl rfl (RD.assign rfl) rfl ?_
    refine TE_nil ?_
    refine pn_seq ?_
    refine pn_seq ?_
    refine pn_plainG [1] ((b5, .cells (objV x (bldVx x.data st8) (bldVx x.ents st11) (bldVx x.pars st14)).cells 30 (0, 0)) :: (b2, .cells (objV x xd xe xp).cells 30 (0, 0)) :: ((bldMx 28 (lnkC) (linksL x) st19) ++ ((bldMx 5 (byteC) x.data st8) ++ ((bldMx 38 (entC) x.ents st11) ++ ((bldMx 25 (idC) x.pars st14) ++ HX))))) rfl (fun a => by simp -failIfUnchanged <;> omega) ?_
    refine TE_q rfl rfl (RD.move rfl) rfl ?_
    refine TE_q rfl rfl (RD.lenX Try.runUnderlying33 rfl hRD22) rfl ?_
    refine TE_q rfl rfl (RD.move rfl) rfl ?_
    refine TE_nil0 ?_
    refine pn_block ?_
    refine pn_loopS (σ := Nat × (List Lnk) × SnkS) (fun q => [(2, .pointer (some ⟨b2, 0, none⟩)), (5, .pointer (some ⟨b5, 0, none⟩)), (6, bldVx q.2.1 q.2.2), (7, .bool true), (39, .int .i64 ((linksL x).length : Int)), (6, bldVx q.2.1 q.2.2), (40, .int .i64 (q.1 : Int))]) (fun q => ((b5, .cells (objV x (bldVx x.data st8) (bldVx x.ents st11) (bldVx x.pars st14)).cells 30 (0, 0)) :: (b2, .cells (objV x xd xe xp).cells 30 (0, 0)) :: ((bldMx 28 (lnkC) q.2.1 q.2.2) ++ ((bldMx 5 (byteC) x.data st8) ++ ((bldMx 38 (entC) x.ents st11) ++ ((bldMx 25 (idC) x.pars st14) ++ HX)))))) (fun q => (q.1 ≤ (linksL x).length) ∧ (q.2.1.length = (linksL x).length) ∧ (BldOk 33 (lnkC) q.2.1 q.2.2) ∧ (∀ e ∈ bldMx 28 (lnkC) q.2.1 q.2.2, w.heap.size ≤ e.1 ∨ e.1 ∈ [])) (fun q => (linksL x).length - q.1) (0, (linksL x), st19) ⟨(by omega), rfl, hbo20, (ownN hX21)⟩ ⟨rfl, rfl, rfl, rfl, rfl, rfl, rfl, trivial⟩ (fun a => by simp -failIfUnchanged <;> omega) ?_
    rintro ⟨i, l1, st0⟩ ⟨hi, hln, hbost0, hXst0⟩
    dsimp only at hi hln hbost0 hXst0 ⊢
    have hRst0 : Rdx 33 (lnkC) (bldMx 28 (lnkC) l1 st0) (bldVx l1 st0) l1 := hbost0.rdx (u := 28) lnkC_len
    refine pn_seq ?_
    refine pn_plain [] rfl ?_
    refine TE_q rfl rfl (RD.lss rfl rfl) rfl ?_
    refine TE_nil0 ?_
    refine pn_seq ?_
    refine pn_condD rfl (fun hc37 => ?_) (fun hc37 => ?_)
    · refine pn_skip ?_
      refine pn_seq ?_
      refine pn_block ?_
      refine pn_seq ?_
      refine pn_plain [] rfl ?_
      refine TE_q rfl rfl (RD.move rfl) rfl ?_
      refine TE_q rfl rfl (RD.assign rfl) rfl ?_
      refine TE_nil0 ?_
      refine pn_plain [] rfl ?_
      refine TE_q rfl rfl (RD.move rfl) rfl ?_
      refine TE_q rfl rfl (RD.move rfl) rfl ?_
      refine TE_q rfl rfl (RD.idxR (i := i) (o := (i * 33 + 0)) Try.runUnderlying33 Try.sizeOf28 rfl hRst0 rfl rfl (by omega) (by rfl)) rfl ?_
      refine TE_q rfl rfl (RD.fldR (i := i) (o' := (i * 33 + 0)) Try.runUnderlying28 rfl (by rfl) Try.sizeOf3 rfl hRst0 (by omega)) rfl ?_
      refine TE_setG (st := st0) (v0 := bldVx l1 st0) l1 i 0 (gt l1 i) (⟨(-1), (gt l1 i).id⟩ : Lnk) ((b5, .cells (objV x (bldVx x.data st8) (bldVx x.ents st11) (bldVx x.pars st14)).cells 30 (0, 0)) :: (b2, .cells (objV x xd xe xp).cells 30 (0, 0)) :: ((bldMx 5 (byteC) x.data st8) ++ ((bldMx 38 (entC) x.ents st11) ++ ((bldMx 25 (idC) x.pars st14) ++ HX)))) lnkC_len lnkC_one rfl Try.sizeOf3 trivial (fun a => by simp -failIfUnchanged <;> omega) hbost0 rfl rfl rfl rfl (gt_some (by omega)) rfl (by omega) (by kernel_rfl) hXst0 ?_
      intro hbo38
      have hR39 : Rdx 33 (lnkC) (bldMx 28 (lnkC) (l1.set i (⟨(-1), (gt l1 i).id⟩ : Lnk)) st0) (bldVx l1 st0) (l1.set i (⟨(-1), (gt l1 i).id⟩ : Lnk)) := (by rw [show bldVx l1 st0 = bldVx (l1.set i (⟨(-1), (gt l1 i).id⟩ : Lnk)) st0 from (bvx_set _ _ _ _).symm]; exact hbo38.rdx (u := 28) lnkC_len)
      refine TE_sp ((b5, .cells (objV x (bldVx x.data st8) (bldVx x.ents st11) (bldVx x.pars st14)).cells 30 (0, 0)) :: (b2, .cells (objV x xd xe xp).cells 30 (0, 0)) :: ((bldMx 28 (lnkC) (l1.set i (⟨(-1), (gt l1 i).id⟩ : Lnk)) st0) ++ ((bldMx 5 (byteC) x.data st8) ++ ((bldMx 38 (entC) x.ents st11) ++ ((bldMx 25 (idC) x.pars st14) ++ HX))))) (fun a => by simp -failIfUnchanged <;> omega) ?_
      refine TE_nil0 ?_
      refine pn_plain [] rfl ?_
      refine TE_q rfl rfl (RD.addI rfl rfl (by omega) (by omega)) rfl ?_
      refine TE_q rfl rfl (RD.move rfl) rfl ?_
      refine TE_nil0 ?_
      exact pn_againS ((i + 1), (l1.set i (⟨(-1), (gt l1 i).id⟩ : Lnk)), st0) ⟨(by omega), (by rw [List.length_set]; exact hln), hbo38, (bmx_own (Q := fun k => w.heap.size ≤ k ∨ k ∈ []) hXst0)⟩ (by dsimp only; omega) ⟨rfl, rfl, (congrArg some (bvx_set _ _ _ _).symm), rfl, rfl, (congrArg some (bvx_set _ _ _ _).symm), rfl, trivial⟩ (fun a => by simp -failIfUnchanged <;> omega)
    · refine pn_exit ?_
      refine pn_seq ?_
      refine pn_plainG [] ((b5, .cells (objV x (bldVx x.data st8) (bldVx x.ents st11) (bldVx x.pars st14)).cells 30 (0, 0)) :: (b2, .cells (objV x xd xe xp).cells 30 (0, 0)) :: ((bldMx 5 (byteC) x.data st8) ++ ((bldMx 38 (entC) x.ents st11) ++ ((bldMx 25 (idC) x.pars st14) ++ HX)))) rfl (fun a => by simp -failIfUnchanged <;> omega) ?_
      refine TE_l rfl rfl trivial rfl (RD.loadA (i := 0) Try.isAgg30 Try.sizeOf30 rfl rfl (Nat.le_of_ble_eq_true rfl) (obj_all _ _ _ _)) rfl ?_
      refine TE_callG _ ((bldMx 5 (byteC) x.data st8) ++ ((bldMx 38 (entC) x.ents st11) ++ (bldMx 25 (idC) x.pars st14))) rfl rfl trivial Try.call12 rfl rfl rfl (fun w hw => c_obCopy x (bldVx x.data st8) (bldVx x.ents st11) (bldVx x.pars st14) ((bldMx 5 (byteC) x.data st8) ++ ((bldMx 38 (entC) x.ents st11) ++ (bldMx 25 (idC) x.pars st14))) w ((Rdb.of_x hRD10).mono (fun _ hw => hw.sp (fun a => by simp -failIfUnchanged <;> omega))) (hRD13.mono (fun _ hw => hw.sp (fun a => by simp -failIfUnchanged <;> omega))) (hRD16.mono (fun _ hw => hw.sp (fun a => by simp -failIfUnchanged <;> omega))) hkx (hw.sp (fun a => by simp -failIfUnchanged <;> omega))) (fun a => by simp -failIfUnchanged <;> omega) ?_
      rintro v50 H51 ⟨st41, st44, st47, hbo42, hbo45, hbo48, rfl, rfl⟩ hX40
      have hRD43 : Rdx 1 (byteC) (bldMx 5 (byteC) x.data st41) (bldVx x.data st41) x.data := hbo42.rdx (u := 5) byteC_len
      have hRD46 : Rdx 34 (entC) (bldMx 38 (entC) x.ents st44) (bldVx x.ents st44) x.ents := hbo45.rdx (u := 38) entC_len
      have hRD49 : Rdx 32 (idC) (bldMx 25 (idC) x.pars st47) (bldVx x.pars st47) x.pars := hbo48.rdx (u := 25) idC_len
      refine TE_sp ((b5, .cells (objV x (bldVx x.data st8) (bldVx x.ents st11) (bldVx x.pars st14)).cells 30 (0, 0)) :: (b2, .cells (objV x xd xe xp).cells 30 (0, 0)) :: ((bldMx 5 (byteC) x.data st41) ++ ((bldMx 38 (entC) x.ents st44) ++ ((bldMx 25 (idC) x.pars st47) ++ ((bldMx 5 (byteC) x.data st8) ++ ((bldMx 38 (entC) x.ents st11) ++ ((bldMx 25 (idC) x.pars st14) ++ HX))))))) (fun a => by simp -failIfUnchanged <;> omega) ?_
      refine TE_allocC (objV (⟨0, [], [], (fun _ => 0), [], (⟨0, (fun _ => 0)⟩ : Lnk), ⟨#[]⟩⟩ : Ob) (.slice none 0 0) (.slice none 0 0) (.slice none 0 0)).cells rfl Try.zeroValue30 rfl trivial rfl fun b9 hb9 => ?_
      refine TE_putCW 0 (objV (⟨0, [], [], (fun _ => 0), [], (⟨0, (fun _ => 0)⟩ : Lnk), ⟨#[]⟩⟩ : Ob) (.slice none 0 0) (.slice none 0 0) (.slice none 0 0)).cells (objV x (bldVx x.data st41) (bldVx x.ents st44) (bldVx x.pars st47)).cells ((b9, .cells (objV x (bldVx x.data st41) (bldVx x.ents st44) (bldVx x.pars st47)).cells 30 (0, 0)) :: (b5, .cells (objV x (bldVx x.data st8) (bldVx x.ents st11) (bldVx x.pars st14)).cells 30 (0, 0)) :: (b2, .cells (objV x xd xe xp).cells 30 (0, 0)) :: ((bldMx 5 (byteC) x.data st41) ++ ((bldMx 38 (entC) x.ents st44) ++ ((bldMx 25 (idC) x.pars st47) ++ ((bldMx 5 (byteC) x.data st8) ++ ((bldMx 38 (entC) x.ents st11) ++ ((bldMx 25 (idC) x.pars st14) ++ HX))))))) rfl Try.sizeOf30 trivial rfl rfl rfl (objV_one _ _ _ _ (bvx_one _ _) (bvx_one _ _) (bvx_one _ _)) rfl rfl rfl rfl (.inl hb9) ?_
      refine TE_nil0 ?_
      refine pn_seq ?_
      refine pn_plain [] rfl ?_
      refine TE_q rfl rfl (RD.move rfl) rfl ?_
      refine TE_q rfl rfl (RD.move rfl) rfl ?_
      refine TE_l rfl rfl ⟨_, rfl, rfl⟩ rfl (RD.loadA (i := 0) Try.isAgg30 Try.sizeOf30 rfl rfl (Nat.le_of_ble_eq_true rfl) (obj_all _ _ _ _)) rfl ?_
      refine TE_l rfl rfl ⟨_, rfl, rfl⟩ rfl (RD.loadA (i := 2) Try.isAgg30 Try.sizeOf30 rfl rfl (Nat.le_of_ble_eq_true rfl) (obj_all _ _ _ _)) rfl ?_
      refine TE_callG _ ((bldMx 5 (byteC) x.data st41) ++ ((bldMx 38 (entC) x.ents st44) ++ ((bldMx 25 (idC) x.pars st47) ++ HX))) rfl rfl ⟨_, rfl, rfl⟩ Try.call11 rfl rfl rfl (fun w hw => (by have h := c_r7Same x (bldVx x.data st41) (bldVx x.ents st44) (bldVx x.pars st47) x xd xe xp ((bldMx 5 (byteC) x.data st41) ++ ((bldMx 38 (entC) x.ents st44) ++ ((bldMx 25 (idC) x.pars st47) ++ HX))) w ((Rdb.of_x hRD43).mono (fun _ hw => hw.sp (fun a => by simp -failIfUnchanged <;> omega))) (hRD46.mono (fun _ hw => hw.sp (fun a => by simp -failIfUnchanged <;> omega))) (hRD49.mono (fun _ hw => hw.sp (fun a => by simp -failIfUnchanged <;> omega))) (hbxd.mono (fun _ hw => hw.sp (fun a => by simp -failIfUnchanged <;> omega))) (hbxe.mono (fun _ hw => hw.sp (fun a => by simp -failIfUnchanged <;> omega))) (hbxp.mono (fun _ hw => hw.sp (fun a => by simp -failIfUnchanged <;> omega))) ⟨(by first | omega | (dsimp only [List.length_nil]; omega) | simp), (by first | omega | (dsimp only [List.length_nil]; omega) | simp)⟩ ⟨(by first | omega | (dsimp only [List.length_nil]; omega) | simp), (by first | omega | (dsimp only [List.length_nil]; omega) | simp)⟩ (hw.sp (fun a => by simp -failIfUnchanged <;> omega)); rw [show (obSame x x) = true from obSame_self x] at h; exact h)) (fun a => by simp -failIfUnchanged <;> omega) ?_
      rintro v52 H53 ⟨rfl, rfl⟩ -
      refine TE_q rfl rfl (RD.pickT rfl rfl) rfl ?_
      refine TE_q rfl rfl (RD.move rfl) rfl ?_
      refine TE_l rfl rfl ⟨_, rfl, rfl⟩ rfl (RD.loadA (i := 0) Try.isAgg30 Try.sizeOf30 rfl rfl (Nat.le_of_ble_eq_true rfl) (obj_all _ _ _ _)) rfl ?_
      refine TE_l rfl rfl ⟨_, rfl, rfl⟩ rfl (RD.loadA (i := 1) Try.isAgg30 Try.sizeOf30 rfl rfl (Nat.le_of_ble_eq_true rfl) (obj_all _ _ _ _)) rfl ?_
      refine TE_callG _ ((bldMx 5 (byteC) x.data st41) ++ ((bldMx 38 (entC) x.ents st44) ++ ((bldMx 25 (idC) x.pars st47) ++ ((bldMx 5 (byteC) x.data st8) ++ ((bldMx 38 (entC) x.ents st11) ++ (bldMx 25 (idC) x.pars st14)))))) rfl rfl ⟨_, rfl, rfl⟩ Try.call10 rfl rfl rfl (fun w hw => (by have h := c_obSame x (bldVx x.data st41) (bldVx x.ents st44) (bldVx x.pars st47) x (bldVx x.data st8) (bldVx x.ents st11) (bldVx x.pars st14) ((bldMx 5 (byteC) x.data st41) ++ ((bldMx 38 (entC) x.ents st44) ++ ((bldMx 25 (idC) x.pars st47) ++ ((bldMx 5 (byteC) x.data st8) ++ ((bldMx 38 (entC) x.ents st11) ++ (bldMx 25 (idC) x.pars st14)))))) w ((Rdb.of_x hRD43).mono (fun _ hw => hw.sp (fun a => by simp -failIfUnchanged <;> omega))) (hRD46.mono (fun _ hw => hw.sp (fun a => by simp -failIfUnchanged <;> omega))) (hRD49.mono (fun _ hw => hw.sp (fun a => by simp -failIfUnchanged <;> omega))) ((Rdb.of_x hRD10).mono (fun _ hw => hw.sp (fun a => by simp -failIfUnchanged <;> omega))) (hRD13.mono (fun _ hw => hw.sp (fun a => by simp -failIfUnchanged <;> omega))) (hRD16.mono (fun _ hw => hw.sp (fun a => by simp -failIfUnchanged <;> omega))) ⟨(by first | omega | (dsimp only [List.length_nil]; omega) | simp), (by first | omega | (dsimp only [List.length_nil]; omega) | simp)⟩ ⟨(by first | omega | (dsimp only [List.length_nil]; omega) | simp), (by first | omega | (dsimp only [List.length_nil]; omega) | simp)⟩ (hw.sp (fun a => by simp -failIfUnchanged <;> omega)); rw [show (obSame x x) = true from obSame_self x] at h; exact h)) (fun a => by simp -failIfUnchanged <;> omega) ?_
      rintro v54 H55 ⟨rfl, rfl⟩ -
      refine TE_q rfl rfl (RD.pickT rfl rfl) rfl ?_
      refine TE_q rfl rfl (RD.assign rfl) rfl ?_
      refine TE_nil0 ?_
      refine pn_seq ?_
      refine pn_seq ?_
      refine pn_plain [2] rfl ?_
      refine TE_q rfl rfl (RD.fieldAddr (o := 1) Try.runUnderlying30 rfl rfl Try.sizeOf22 rfl) rfl ?_
      refine TE_l rfl rfl trivial rfl (RD.load (i := 0) (v := bldVx x.data st41) Try.isAgg22 rfl rfl rfl) rfl ?_
      refine TE_q rfl rfl (RD.lenX Try.runUnderlying22 rfl hRD43) rfl ?_
      refine TE_q rfl rfl (RD.move rfl) rfl ?_
      refine TE_nil0 ?_
      refine pn_block ?_
      refine pn_loopS (σ := Nat × (List UInt8)) (fun q => [(2, .pointer (some ⟨b2, 0, none⟩)), (5, .pointer (some ⟨b5, 0, none⟩)), (7, .bool true), (9, .pointer (some ⟨b9, 0, none⟩)), (63, .int .i64 (x.data.length : Int)), (64, .int .i64 (q.1 : Int))]) (fun q => ((b9, .cells (objV x (bldVx x.data st41) (bldVx x.ents st44) (bldVx x.pars st47)).cells 30 (0, 0)) :: (b5, .cells (objV x (bldVx x.data st8) (bldVx x.ents st11) (bldVx x.pars st14)).cells 30 (0, 0)) :: (b2, .cells (objV x xd xe xp).cells 30 (0, 0)) :: ((bldMx 5 (byteC) q.2 st41) ++ ((bldMx 38 (entC) x.ents st44) ++ ((bldMx 25 (idC) x.pars st47) ++ ((bldMx 5 (byteC) x.data st8) ++ ((bldMx 38 (entC) x.ents st11) ++ ((bldMx 25 (idC) x.pars st14) ++ HX)))))))) (fun q => (q.1 ≤ x.data.length) ∧ (q.2.length = x.data.length) ∧ (BldOk 1 (byteC) q.2 st41) ∧ (∀ e ∈ (bldMx 5 (byteC) q.2 st41), w.heap.size ≤ e.1 ∨ e.1 ∈ [])) (fun q => x.data.length - q.1) (0, x.data) ⟨(by omega), rfl, hbo42, (ownN (fun e he => hX40 e (List.mem_append_left _ he)))⟩ ⟨rfl, rfl, rfl, rfl, rfl, rfl, trivial⟩ (fun a => by simp -failIfUnchanged <;> omega) ?_
      rintro ⟨i1, d1⟩ ⟨hi1, hld1, hbd1, hXd1⟩
      dsimp only at hi1 hld1 hbd1 hXd1 ⊢
      have hvd1 : bldVx x.data st41 = bldVx d1 st41 := bvx_len (by rw [hld1]) st41
      have hRd1 : Rdx 1 (byteC) (bldMx 5 (byteC) d1 st41) (bldVx x.data st41) d1 := by rw [hvd1]; exact hbd1.rdx (u := 5) byteC_len
      refine pn_seq ?_
      refine pn_plain [] rfl ?_
      refine TE_q rfl rfl (RD.lss rfl rfl) rfl ?_
      refine TE_nil0 ?_
      refine pn_seq ?_
      refine pn_condD rfl (fun hc56 => ?_) (fun hc56 => ?_)
      · refine pn_skip ?_
        refine pn_seq ?_
        refine pn_block ?_
        refine pn_seq ?_
        refine pn_plain [] rfl ?_
        refine TE_q rfl rfl (RD.move rfl) rfl ?_
        refine TE_q rfl rfl (RD.assign rfl) rfl ?_
        refine TE_nil0 ?_
        refine pn_plain [] rfl ?_
        refine TE_q rfl rfl (RD.fieldAddr (o := 1) Try.runUnderlying30 rfl rfl Try.sizeOf22 rfl) rfl ?_
        refine TE_l rfl rfl trivial rfl (RD.load (i := 0) (v := bldVx x.data st41) Try.isAgg22 rfl rfl rfl) rfl ?_
        refine TE_q rfl rfl (RD.move rfl) rfl ?_
        refine TE_q rfl rfl (RD.idxR (i := i1) (o := (i1 * 1 + 0)) Try.runUnderlying22 Try.sizeOf5 rfl hRd1 rfl rfl (by omega) (by rfl)) rfl ?_
        refine TE_l rfl rfl trivial rfl (RD.ldR (i := i1) (j := 0) (u := .int .u8 ((gt d1 i1).toNat : Int)) Try.isAgg5 rfl hRd1 (gt_some (by omega)) (by rfl) rfl (fun _ hw => hw.sp (fun a => by simp -failIfUnchanged <;> omega))) rfl ?_
        refine TE_q rfl rfl (RD.add rfl rfl) rfl ?_
        refine TE_q rfl rfl (RD.idxR (i := i1) (o := (i1 * 1 + 0)) Try.runUnderlying22 Try.sizeOf5 rfl hRd1 rfl rfl (by omega) (by rfl)) rfl ?_
        refine TE_setG (st := st41) (v0 := bldVx x.data st41) d1 i1 0 (gt d1 i1) (toB (IntKind.u8.wrap (((gt d1 i1).toNat : Int) + 1))) ((b9, .cells (objV x (bldVx x.data st41) (bldVx x.ents st44) (bldVx x.pars st47)).cells 30 (0, 0)) :: (b5, .cells (objV x (bldVx x.data st8) (bldVx x.ents st11) (bldVx x.pars st14)).cells 30 (0, 0)) :: (b2, .cells (objV x xd xe xp).cells 30 (0, 0)) :: ((bldMx 38 (entC) x.ents st44) ++ ((bldMx 25 (idC) x.pars st47) ++ ((bldMx 5 (byteC) x.data st8) ++ ((bldMx 38 (entC) x.ents st11) ++ ((bldMx 25 (idC) x.pars st14) ++ HX)))))) byteC_len byteC_one rfl Try.sizeOf5 trivial (fun a => by simp -failIfUnchanged <;> omega) hbd1 hvd1 rfl rfl rfl (gt_some (by omega)) rfl (by omega) (byte_put (u8_rng _).1 (u8_rng _).2) hXd1 ?_
        intro hbo57
        have hR58 : Rdx 1 (byteC) (bldMx 5 (byteC) (d1.set i1 (toB (IntKind.u8.wrap (((gt d1 i1).toNat : Int) + 1)))) st41) (bldVx x.data st41) (d1.set i1 (toB (IntKind.u8.wrap (((gt d1 i1).toNat : Int) + 1)))) := (by rw [show bldVx x.data st41 = bldVx (d1.set i1 (toB (IntKind.u8.wrap (((gt d1 i1).toNat : Int) + 1)))) st41 from (hvd1.trans (bvx_set _ _ _ _).symm)]; exact hbo57.rdx (u := 5) byteC_len)
        refine TE_sp ((b9, .cells (objV x (bldVx x.data st41) (bldVx x.ents st44) (bldVx x.pars st47)).cells 30 (0, 0)) :: (b5, .cells (objV x (bldVx x.data st8) (bldVx x.ents st11) (bldVx x.pars st14)).cells 30 (0, 0)) :: (b2, .cells (objV x xd xe xp).cells 30 (0, 0)) :: ((bldMx 5 (byteC) (d1.set i1 (toB (IntKind.u8.wrap (((gt d1 i1).toNat : Int) + 1)))) st41) ++ ((bldMx 38 (entC) x.ents st44) ++ ((bldMx 25 (idC) x.pars st47) ++ ((bldMx 5 (byteC) x.data st8) ++ ((bldMx 38 (entC) x.ents st11) ++ ((bldMx 25 (idC) x.pars st14) ++ HX))))))) (fun a => by simp -failIfUnchanged <;> omega) ?_
        refine TE_nil0 ?_
        refine pn_plain [] rfl ?_
        refine TE_q rfl rfl (RD.addI rfl rfl (by omega) (by omega)) rfl ?_
        refine TE_q rfl rfl (RD.move rfl) rfl ?_
        refine TE_nil0 ?_
        exact pn_againS ((i1 + 1), (d1.set i1 (toB (IntKind.u8.wrap (((gt d1 i1).toNat : Int) + 1))))) ⟨(by omega), (by rw [List.length_set]; exact hld1), hbo57, (bmx_own (Q := fun k => w.heap.size ≤ k ∨ k ∈ []) hXd1)⟩ (by dsimp only; omega) ⟨rfl, rfl, rfl, rfl, rfl, rfl, trivial⟩ (fun a => by simp -failIfUnchanged <;> omega)
      · refine pn_exit ?_
        refine pn_seq ?_
        refine pn_seq ?_
        refine pn_plain [2] rfl ?_
        refine TE_q rfl rfl (RD.fieldAddr (o := 2) Try.runUnderlying30 rfl rfl Try.sizeOf23 rfl) rfl ?_
        refine TE_l rfl rfl trivial rfl (RD.load (i := 0) (v := bldVx x.ents st44) Try.isAgg23 rfl rfl rfl) rfl ?_
        refine TE_q rfl rfl (RD.lenX Try.runUnderlying23 rfl hRD46) rfl ?_
        refine TE_q rfl rfl (RD.move rfl) rfl ?_
        refine TE_nil0 ?_
        refine pn_block ?_
        refine pn_loopS (σ := Nat × (List Ent)) (fun q => [(2, .pointer (some ⟨b2, 0, none⟩)), (5, .pointer (some ⟨b5, 0, none⟩)), (7, .bool true), (9, .pointer (some ⟨b9, 0, none⟩)), (77, .int .i64 (x.ents.length : Int)), (78, .int .i64 (q.1 : Int))]) (fun q => ((b9, .cells (objV x (bldVx x.data st41) (bldVx x.ents st44) (bldVx x.pars st47)).cells 30 (0, 0)) :: (b5, .cells (objV x (bldVx x.data st8) (bldVx x.ents st11) (bldVx x.pars st14)).cells 30 (0, 0)) :: (b2, .cells (objV x xd xe xp).cells 30 (0, 0)) :: ((bldMx 38 (entC) q.2 st44) ++ ((bldMx 5 (byteC) d1 st41) ++ ((bldMx 25 (idC) x.pars st47) ++ ((bldMx 5 (byteC) x.data st8) ++ ((bldMx 38 (entC) x.ents st11) ++ ((bldMx 25 (idC) x.pars st14) ++ HX)))))))) (fun q => (q.1 ≤ x.ents.length) ∧ (q.2.length = x.ents.length) ∧ (BldOk 34 (entC) q.2 st44) ∧ (∀ e ∈ (bldMx 38 (entC) q.2 st44), w.heap.size ≤ e.1 ∨ e.1 ∈ [])) (fun q => x.ents.length - q.1) (0, x.ents) ⟨(by omega), rfl, hbo45, (ownN (fun e he => hX40 e (List.mem_append_right _ (List.mem_append_left _ he))))⟩ ⟨rfl, rfl, rfl, rfl, rfl, rfl, trivial⟩ (fun a => by simp -failIfUnchanged <;> omega) ?_
        rintro ⟨i2, e1⟩ ⟨hi2, hle1, hbe1, hXe1⟩
        dsimp only at hi2 hle1 hbe1 hXe1 ⊢
        have hve1 : bldVx x.ents st44 = bldVx e1 st44 := bvx_len (by rw [hle1]) st44
        have hRe1 : Rdx 34 (entC) (bldMx 38 (entC) e1 st44) (bldVx x.ents st44) e1 := by rw [hve1]; exact hbe1.rdx (u := 38) entC_len
        refine pn_seq ?_
        refine pn_plain [] rfl ?_
        refine TE_q rfl rfl (RD.lss rfl rfl) rfl ?_
        refine TE_nil0 ?_
        refine pn_seq ?_
        refine pn_condD rfl (fun hc59 => ?_) (fun hc59 => ?_)
        · refine pn_skip ?_
          refine pn_seq ?_
          refine pn_block ?_
          refine pn_seq ?_
          refine pn_plain [] rfl ?_
          refine TE_q rfl rfl (RD.move rfl) rfl ?_
          refine TE_q rfl rfl (RD.assign rfl) rfl ?_
          refine TE_nil0 ?_
          refine pn_plain [] rfl ?_
          refine TE_q rfl rfl (RD.fieldAddr (o := 2) Try.runUnderlying30 rfl rfl Try.sizeOf23 rfl) rfl ?_
          refine TE_l rfl rfl trivial rfl (RD.load (i := 0) (v := bldVx x.ents st44) Try.isAgg23 rfl rfl rfl) rfl ?_
          refine TE_q rfl rfl (RD.move rfl) rfl ?_
          refine TE_q rfl rfl (RD.idxR (i := i2) (o := (i2 * 34 + 0)) Try.runUnderlying23 Try.sizeOf38 rfl hRe1 rfl rfl (by omega) (by rfl)) rfl ?_
          refine TE_q rfl rfl (RD.fldR (i := i2) (o' := (i2 * 34 + 1)) Try.runUnderlying38 rfl (by rfl) Try.sizeOf3 rfl hRe1 (by omega)) rfl ?_
          refine TE_l rfl rfl trivial rfl (RD.ldR (i := i2) (j := 1) (u := .int .i64 ((gt e1 i2).k)) Try.isAgg3 rfl hRe1 (gt_some (by omega)) (by rfl) rfl (fun _ hw => hw.sp (fun a => by simp -failIfUnchanged <;> omega))) rfl ?_
          refine TE_q rfl rfl (RD.add rfl rfl) rfl ?_
          refine TE_q rfl rfl (RD.idxR (i := i2) (o := (i2 * 34 + 0)) Try.runUnderlying23 Try.sizeOf38 rfl hRe1 rfl rfl (by omega) (by rfl)) rfl ?_
          refine TE_q rfl rfl (RD.fldR (i := i2) (o' := (i2 * 34 + 1)) Try.runUnderlying38 rfl (by rfl) Try.sizeOf3 rfl hRe1 (by omega)) rfl ?_
          refine TE_setG (st := st44) (v0 := bldVx x.ents st44) e1 i2 1 (gt e1 i2) (⟨(gt e1 i2).name, (IntKind.i64.wrap ((gt e1 i2).k + 1)), (gt e1 i2).id⟩ : Ent) ((b9, .cells (objV x (bldVx x.data st41) (bldVx x.ents st44) (bldVx x.pars st47)).cells 30 (0, 0)) :: (b5, .cells (objV x (bldVx x.data st8) (bldVx x.ents st11) (bldVx x.pars st14)).cells 30 (0, 0)) :: (b2, .cells (objV x xd xe xp).cells 30 (0, 0)) :: ((bldMx 5 (byteC) d1 st41) ++ ((bldMx 25 (idC) x.pars st47) ++ ((bldMx 5 (byteC) x.data st8) ++ ((bldMx 38 (entC) x.ents st11) ++ ((bldMx 25 (idC) x.pars st14) ++ HX)))))) entC_len entC_one rfl Try.sizeOf3 trivial (fun a => by simp -failIfUnchanged <;> omega) hbe1 hve1 rfl rfl rfl (gt_some (by omega)) rfl (by omega) (by kernel_rfl) hXe1 ?_
          intro hbo60
          have hR61 : Rdx 34 (entC) (bldMx 38 (entC) (e1.set i2 (⟨(gt e1 i2).name, (IntKind.i64.wrap ((gt e1 i2).k + 1)), (gt e1 i2).id⟩ : Ent)) st44) (bldVx x.ents st44) (e1.set i2 (⟨(gt e1 i2).name, (IntKind.i64.wrap ((gt e1 i2).k + 1)), (gt e1 i2).id⟩ : Ent)) := (by rw [show bldVx x.ents st44 = bldVx (e1.set i2 (⟨(gt e1 i2).name, (IntKind.i64.wrap ((gt e1 i2).k + 1)), (gt e1 i2).id⟩ : Ent)) st44 from (hve1.trans (bvx_set _ _ _ _).symm)]; exact hbo60.rdx (u := 38) entC_len)
          refine TE_sp ((b9, .cells (objV x (bldVx x.data st41) (bldVx x.ents st44) (bldVx x.pars st47)).cells 30 (0, 0)) :: (b5, .cells (objV x (bldVx x.data st8) (bldVx x.ents st11) (bldVx x.pars st14)).cells 30 (0, 0)) :: (b2, .cells (objV x xd xe xp).cells 30 (0, 0)) :: ((bldMx 38 (entC) (e1.set i2 (⟨(gt e1 i2).name, (IntKind.i64.wrap ((gt e1 i2).k + 1)), (gt e1 i2).id⟩ : Ent)) st44) ++ ((bldMx 5 (byteC) d1 st41) ++ ((bldMx 25 (idC) x.pars st47) ++ ((bldMx 5 (byteC) x.data st8) ++ ((bldMx 38 (entC) x.ents st11) ++ ((bldMx 25 (idC) x.pars st14) ++ HX))))))) (fun a => by simp -failIfUnchanged <;> omega) ?_
          refine TE_nil0 ?_
          refine pn_plain [] rfl ?_
          refine TE_q rfl rfl (RD.addI rfl rfl (by omega) (by omega)) rfl ?_
          refine TE_q rfl rfl (RD.move rfl) rfl ?_
          refine TE_nil0 ?_
          exact pn_againS ((i2 + 1), (e1.set i2 (⟨(gt e1 i2).name, (IntKind.i64.wrap ((gt e1 i2).k + 1)), (gt e1 i2).id⟩ : Ent))) ⟨(by omega), (by rw [List.length_set]; exact hle1), hbo60, (bmx_own (Q := fun k => w.heap.size ≤ k ∨ k ∈ []) hXe1)⟩ (by dsimp only; omega) ⟨rfl, rfl, rfl, rfl, rfl, rfl, trivial⟩ (fun a => by simp -failIfUnchanged <;> omega)
        · refine pn_exit ?_
          refine pn_seq ?_
          refine pn_seq ?_
          refine pn_plain [2] rfl ?_
          refine TE_q rfl rfl (RD.fieldAddr (o := 35) Try.runUnderlying30 rfl rfl Try.sizeOf26 rfl) rfl ?_
          refine TE_l rfl rfl trivial rfl (RD.load (i := 0) (v := bldVx x.pars st47) Try.isAgg26 rfl rfl rfl) rfl ?_
          refine TE_q rfl rfl (RD.lenX Try.runUnderlying26 rfl hRD49) rfl ?_
          refine TE_q rfl rfl (RD.move rfl) rfl ?_
          refine TE_nil0 ?_
          refine pn_block ?_
          refine pn_loopS (σ := Nat × (List (Nat → Int))) (fun q => [(2, .pointer (some ⟨b2, 0, none⟩)), (5, .pointer (some ⟨b5, 0, none⟩)), (7, .bool true), (9, .pointer (some ⟨b9, 0, none⟩)), (93, .int .i64 (x.pars.length : Int)), (94, .int .i64 (q.1 : Int))]) (fun q => ((b9, .cells (objV x (bldVx x.data st41) (bldVx x.ents st44) (bldVx x.pars st47)).cells 30 (0, 0)) :: (b5, .cells (objV x (bldVx x.data st8) (bldVx x.ents st11) (bldVx x.pars st14)).cells 30 (0, 0)) :: (b2, .cells (objV x xd xe xp).cells 30 (0, 0)) :: ((bldMx 25 (idC) q.2 st47) ++ ((bldMx 38 (entC) e1 st44) ++ ((bldMx 5 (byteC) d1 st41) ++ ((bldMx 5 (byteC) x.data st8) ++ ((bldMx 38 (entC) x.ents st11) ++ ((bldMx 25 (idC) x.pars st14) ++ HX)))))))) (fun q => (q.1 ≤ x.pars.length) ∧ (q.2.length = x.pars.length) ∧ (BldOk 32 (idC) q.2 st47) ∧ (∀ e ∈ (bldMx 25 (idC) q.2 st47), w.heap.size ≤ e.1 ∨ e.1 ∈ [])) (fun q => x.pars.length - q.1) (0, x.pars) ⟨(by omega), rfl, hbo48, (ownN (fun e he => hX40 e (List.mem_append_right _ (List.mem_append_right _ he))))⟩ ⟨rfl, rfl, rfl, rfl, rfl, rfl, trivial⟩ (fun a => by simp -failIfUnchanged <;> omega) ?_
          rintro ⟨i3, p1⟩ ⟨hi3, hlp1, hbp1, hXp1⟩
          dsimp only at hi3 hlp1 hbp1 hXp1 ⊢
          have hvp1 : bldVx x.pars st47 = bldVx p1 st47 := bvx_len (by rw [hlp1]) st47
          have hRp1 : Rdx 32 (idC) (bldMx 25 (idC) p1 st47) (bldVx x.pars st47) p1 := by rw [hvp1]; exact hbp1.rdx (u := 25) idC_len
          refine pn_seq ?_
          refine pn_plain [] rfl ?_
          refine TE_q rfl rfl (RD.lss rfl rfl) rfl ?_
          refine TE_nil0 ?_
          refine pn_seq ?_
          refine pn_condD rfl (fun hc62 => ?_) (fun hc62 => ?_)
          · refine pn_skip ?_
            refine pn_seq ?_
            refine pn_block ?_
            refine pn_seq ?_
            refine pn_plain [] rfl ?_
            refine TE_q rfl rfl (RD.move rfl) rfl ?_
            refine TE_q rfl rfl (RD.assign rfl) rfl ?_
            refine TE_nil0 ?_
            refine pn_drawG [1] (bldMx 25 (idC) p1 st47) ((b9, .cells (objV x (bldVx x.data st41) (bldVx x.ents st44) (bldVx x.pars st47)).cells 30 (0, 0)) :: (b5, .cells (objV x (bldVx x.data st8) (bldVx x.ents st11) (bldVx x.pars st14)).cells 30 (0, 0)) :: (b2, .cells (objV x xd xe xp).cells 30 (0, 0)) :: ((bldMx 38 (entC) e1 st44) ++ ((bldMx 5 (byteC) d1 st41) ++ ((bldMx 5 (byteC) x.data st8) ++ ((bldMx 38 (entC) x.ents st11) ++ ((bldMx 25 (idC) x.pars st14) ++ HX)))))) rfl rfl (by kernel_rfl) (fun a => by simp -failIfUnchanged <;> omega) ?_
            refine TE_q rfl rfl (RD.fieldAddr (o := 35) Try.runUnderlying30 rfl rfl Try.sizeOf26 rfl) rfl ?_
            refine TE_q rfl rfl (RD.load (i := 0) (v := bldVx x.pars st47) Try.isAgg26 rfl rfl rfl) rfl ?_
            refine TE_q rfl rfl (RD.move rfl) rfl ?_
            refine TE_q rfl rfl (RD.idxR (i := i3) (o := (i3 * 32 + 0)) Try.runUnderlying26 Try.sizeOf25 rfl hRp1 rfl rfl (by omega) (by rfl)) rfl ?_
            refine TE_q rfl rfl (RD.as (v := slp (bldVx x.pars st47) (i3 * 32 + 0)) (RD.idxArrS (i := i3) (o' := (i3 * 32 + 0)) Try.runUnderlying25 Try.sizeOf5 rfl hRp1 (by omega) rfl rfl (by decide) (by decide)) rfl) rfl ?_
            refine TE_l rfl rfl trivial rfl (RD.ldR (i := i3) (j := 0) (u := .int .u8 ((gt p1 i3) 0)) Try.isAgg5 rfl hRp1 (gt_some (by omega)) (by rfl) rfl (fun _ hw => hw.sp (fun a => by simp -failIfUnchanged <;> omega))) rfl ?_
            refine TE_q rfl rfl (RD.add rfl rfl) rfl ?_
            refine TE_q rfl rfl (RD.idxR (i := i3) (o := (i3 * 32 + 0)) Try.runUnderlying26 Try.sizeOf25 rfl hRp1 rfl rfl (by omega) (by rfl)) rfl ?_
            refine TE_q rfl rfl (RD.as (v := slp (bldVx x.pars st47) (i3 * 32 + 0)) (RD.idxArrS (i := i3) (o' := (i3 * 32 + 0)) Try.runUnderlying25 Try.sizeOf5 rfl hRp1 (by omega) rfl rfl (by decide) (by decide)) rfl) rfl ?_
            refine TE_setG (st := st47) (v0 := bldVx x.pars st47) p1 i3 0 (gt p1 i3) (fun i => if i = 0 then (IntKind.u8.wrap (((gt p1 i3) 0) + 1)) else (gt p1 i3) i) [] idC_len idC_one rfl Try.sizeOf5 trivial (fun a => by simp -failIfUnchanged <;> omega) hbp1 hvp1 rfl rfl rfl (gt_some (by omega)) rfl (by omega) (by kernel_rfl) hXp1 ?_
            intro hbo63
            have hR64 : Rdx 32 (idC) (bldMx 25 (idC) (p1.set i3 (fun i => if i = 0 then (IntKind.u8.wrap (((gt p1 i3) 0) + 1)) else (gt p1 i3) i)) st47) (bldVx x.pars st47) (p1.set i3 (fun i => if i = 0 then (IntKind.u8.wrap (((gt p1 i3) 0) + 1)) else (gt p1 i3) i)) := (by rw [show bldVx x.pars st47 = bldVx (p1.set i3 (fun i => if i = 0 then (IntKind.u8.wrap (((gt p1 i3) 0) + 1)) else (gt p1 i3) i)) st47 from (hvp1.trans (bvx_set _ _ _ _).symm)]; exact hbo63.rdx (u := 25) idC_len)
            refine TE_sp (bldMx 25 (idC) (p1.set i3 (fun i => if i = 0 then (IntKind.u8.wrap (((gt p1 i3) 0) + 1)) else (gt p1 i3) i)) st47) (fun a => by simp -failIfUnchanged <;> omega) ?_
            refine TE_nil ?_
            refine pn_plainG [] ((b9, .cells (objV x (bldVx x.data st41) (bldVx x.ents st44) (bldVx x.pars st47)).cells 30 (0, 0)) :: (b5, .cells (objV x (bldVx x.data st8) (bldVx x.ents st11) (bldVx x.pars st14)).cells 30 (0, 0)) :: (b2, .cells (objV x xd xe xp).cells 30 (0, 0)) :: ((bldMx 25 (idC) (p1.set i3 (fun i => if i = 0 then (IntKind.u8.wrap (((gt p1 i3) 0) + 1)) else (gt p1 i3) i)) st47) ++ ((bldMx 38 (entC) e1 st44) ++ ((bldMx 5 (byteC) d1 st41) ++ ((bldMx 5 (byteC) x.data st8) ++ ((bldMx 38 (entC) x.ents st11) ++ ((bldMx 25 (idC) x.pars st14) ++ HX))))))) rfl (fun a => by simp -failIfUnchanged <;> omega) ?_
            refine TE_q rfl rfl (RD.addI rfl rfl (by omega) (by omega)) rfl ?_
            refine TE_q rfl rfl (RD.move rfl) rfl ?_
            refine TE_nil0 ?_
            exact pn_againS ((i3 + 1), (p1.set i3 (fun i => if i = 0 then (IntKind.u8.wrap (((gt p1 i3) 0) + 1)) else (gt p1 i3) i))) ⟨(by omega), (by rw [List.length_set]; exact hlp1), hbo63, (bmx_own (Q := fun k => w.heap.size ≤ k ∨ k ∈ []) hXp1)⟩ (by dsimp only; omega) ⟨rfl, rfl, rfl, rfl, rfl, rfl, trivial⟩ (fun a => by simp -failIfUnchanged <;> omega)
          · refine pn_exit ?_
            refine pn_seq ?_
            refine pn_plainG [] ((b5, .cells (objV x (bldVx x.data st8) (bldVx x.ents st11) (bldVx x.pars st14)).cells 30 (0, 0)) :: (b2, .cells (objV x xd xe xp).cells 30 (0, 0)) :: ((bldMx 5 (byteC) x.data st8) ++ ((bldMx 38 (entC) x.ents st11) ++ ((bldMx 25 (idC) x.pars st14) ++ HX)))) rfl (fun a => by simp -failIfUnchanged <;> omega) ?_
            refine TE_q rfl rfl (RD.move rfl) rfl ?_
            refine TE_q rfl rfl (RD.move rfl) rfl ?_
            refine TE_l rfl rfl ⟨_, rfl, rfl⟩ rfl (RD.loadA (i := 0) Try.isAgg30 Try.sizeOf30 rfl rfl (Nat.le_of_ble_eq_true rfl) (obj_all _ _ _ _)) rfl ?_
            refine TE_l rfl rfl ⟨_, rfl, rfl⟩ rfl (RD.loadA (i := 1) Try.isAgg30 Try.sizeOf30 rfl rfl (Nat.le_of_ble_eq_true rfl) (obj_all _ _ _ _)) rfl ?_
            refine TE_callG _ ((bldMx 5 (byteC) x.data st8) ++ ((bldMx 38 (entC) x.ents st11) ++ ((bldMx 25 (idC) x.pars st14) ++ HX))) rfl rfl ⟨_, rfl, rfl⟩ Try.call11 rfl rfl rfl (fun w hw => (by have h := c_r7Same x (bldVx x.data st8) (bldVx x.ents st11) (bldVx x.pars st14) x xd xe xp ((bldMx 5 (byteC) x.data st8) ++ ((bldMx 38 (entC) x.ents st11) ++ ((bldMx 25 (idC) x.pars st14) ++ HX))) w ((Rdb.of_x hRD10).mono (fun _ hw => hw.sp (fun a => by simp -failIfUnchanged <;> omega))) (hRD13.mono (fun _ hw => hw.sp (fun a => by simp -failIfUnchanged <;> omega))) (hRD16.mono (fun _ hw => hw.sp (fun a => by simp -failIfUnchanged <;> omega))) (hbxd.mono (fun _ hw => hw.sp (fun a => by simp -failIfUnchanged <;> omega))) (hbxe.mono (fun _ hw => hw.sp (fun a => by simp -failIfUnchanged <;> omega))) (hbxp.mono (fun _ hw => hw.sp (fun a => by simp -failIfUnchanged <;> omega))) ⟨(by first | omega | (dsimp only [List.length_nil]; omega) | simp), (by first | omega | (dsimp only [List.length_nil]; omega) | simp)⟩ ⟨(by first | omega | (dsimp only [List.length_nil]; omega) | simp), (by first | omega | (dsimp only [List.length_nil]; omega) | simp)⟩ (hw.sp (fun a => by simp -failIfUnchanged <;> omega)); rw [show (obSame x x) = true from obSame_self x] at h; exact h)) (fun a => by simp -failIfUnchanged <;> omega) ?_
            rintro v65 H66 ⟨rfl, rfl⟩ -
            refine TE_q rfl rfl (RD.pickT rfl rfl) rfl ?_
            refine TE_q rfl rfl (RD.assign rfl) rfl ?_
            refine TE_nil0 ?_
            refine pn_ret ?_
            exact pn_doneS [] rfl rfl ⟨rfl, rfl⟩ (fun _ => Nat.zero_le _) (fun _ he => nomatch he)

end Go.Proofs.Ytjdjlcmajeikcaa
