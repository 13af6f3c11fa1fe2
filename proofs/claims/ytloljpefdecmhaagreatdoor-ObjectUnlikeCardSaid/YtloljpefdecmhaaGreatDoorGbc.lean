import Derived.Test.YtloljpefdecmhaaGreatDoorGbb
namespace Go.Proofs.YtloljpefdecmhaaGreatDoor
open Go Go.Mv
set_option maxRecDepth 8000
theorem links_cg {x y : Ob} (h : Alike x y) : sameGL same_lnk (linksL x) (linksL y) = true := by
  have hk := h.k
  have e1 : ∀ {l l' : List Ent}, sameGL same_ent l l' = true → sameGL same_lnk (l.map fun e => (⟨e.k, e.id⟩ : Lnk)) (l'.map fun e => (⟨e.k, e.id⟩ : Lnk)) = true := by
    intro l
    induction l with
    | nil => intro l' h; cases l' with
      | nil => rfl
      | cons _ _ => cases h
    | cons a l ih => intro l' h; cases l' with
      | nil => cases h
      | cons b l' =>
        rw [sameGL, Bool.and_eq_true] at h
        rw [List.map_cons, List.map_cons, sameGL, ih h.2, Bool.and_true]
        obtain ⟨_, h2, h3⟩ := ents_parts h.1
        simp [same_lnk, h2, h3]
  have e2 : ∀ {l l' : List (Nat → Int)}, sameGL (sameN 32) l l' = true → sameGL same_lnk (l.map fun p => (⟨3, p⟩ : Lnk)) (l'.map fun p => (⟨3, p⟩ : Lnk)) = true := by
    intro l
    induction l with
    | nil => intro l' h; cases l' with
      | nil => rfl
      | cons _ _ => cases h
    | cons a l ih => intro l' h; cases l' with
      | nil => cases h
      | cons b l' =>
        rw [sameGL, Bool.and_eq_true] at h
        rw [List.map_cons, List.map_cons, sameGL, ih h.2, Bool.and_true]
        simp [same_lnk, h.1]
  unfold linksL
  rw [ok_cg h]
  split
  · unfold lnksL
    rw [hk]
    split
    · rfl
    split
    · exact e1 h.e
    split
    · rw [sameGL, e2 h.p, Bool.and_true]; simp [same_lnk, h.t]
    split
    · simp [sameGL, same_lnk, h.gk, h.gi]
    · rfl
  · rfl
theorem id_cg {x y : Ob} (h : Alike x y) : sameN 32 (idO x) (idO y) = true := by
  unfold idO
  rw [ok_cg h, obB_cg h]
  exact sameN_self _ _
theorem bytes_iff {x y : Ob} (hx : obOkB x = true) (hy : obOkB y = true) (wx : ObOk x) (wy : ObOk y) : obSame x y = decide ((⟨(obB x).toArray⟩ : ByteArray) = ⟨(obB y).toArray⟩) := by
  refine Bool.eq_iff_iff.2 ?_
  rw [decide_eq_true_eq, ba_eq]
  exact ⟨fun h => obB_cg (alike_iff.1 h), fun h => alike_iff.2 (alike_of_bytes hx hy wx wy h)⟩
theorem un_fin {x y : Ob} (hx : obOkB x = true) (hy : obOkB y = true) (wx : ObOk x) (wy : ObOk y) : ((decide ((err (obOkB x) 70) = 0)) && ((decide ((err (obOkB y) 70) = 0)) && (((obSame x y) == (decide ((⟨(obB x).toArray⟩ : ByteArray) = (⟨(obB y).toArray⟩ : ByteArray)))) && (((!(obSame x y)) && ((obSame y x) == (obSame x y))) || ((!(!(obSame x y))) && ((sameN 32 (idO x) (idO y)) && ((sameGL same_lnk (linksL x) (linksL y)) && ((obSame y x) == (obSame x y))))))))) = true := by
  rw [hx, hy, ← bytes_iff hx hy wx wy, obSame_symm y x]
  cases h : obSame x y with
  | false => simp [err]
  | true =>
    rw [id_cg (alike_iff.1 h), links_cg (alike_iff.1 h)]
    simp [err]

theorem c_ObjectUnlike (x : Ob) (xd : Value) (xe : Value) (xp : Value) (y : Ob) (yd : Value) (ye : Value) (yp : Value) (HX : Mem) (w : World) (hbxd : Rdb ((0, .cells (wfV 8 (s8f shaB)).cells 107 (0, 0)) :: (1, .cells (wfV 64 (gtf shaK)).cells 217 (0, 0)) :: HX) xd x.data) (hbxe : Rdx 34 (entC) ((0, .cells (wfV 8 (s8f shaB)).cells 107 (0, 0)) :: (1, .cells (wfV 64 (gtf shaK)).cells 217 (0, 0)) :: HX) xe x.ents) (hbxp : Rdx 32 (idC) ((0, .cells (wfV 8 (s8f shaB)).cells 107 (0, 0)) :: (1, .cells (wfV 64 (gtf shaK)).cells 217 (0, 0)) :: HX) xp x.pars) (hox : ObW x) (hbyd : Rdb ((0, .cells (wfV 8 (s8f shaB)).cells 107 (0, 0)) :: (1, .cells (wfV 64 (gtf shaK)).cells 217 (0, 0)) :: HX) yd y.data) (hbye : Rdx 34 (entC) ((0, .cells (wfV 8 (s8f shaB)).cells 107 (0, 0)) :: (1, .cells (wfV 64 (gtf shaK)).cells 217 (0, 0)) :: HX) ye y.ents) (hbyp : Rdx 32 (idC) ((0, .cells (wfV 8 (s8f shaB)).cells 107 (0, 0)) :: (1, .cells (wfV 64 (gtf shaK)).cells 217 (0, 0)) :: HX) yp y.pars) (hoy : ObW y) (hH : Hp ((0, .cells (wfV 8 (s8f shaB)).cells 107 (0, 0)) :: (1, .cells (wfV 64 (gtf shaK)).cells 217 (0, 0)) :: HX) w) : Calls Tryz.prog 7 #[objV x xd xe xp, objV y yd ye yp] w (Ret w [] fun v H1 => v = .bool true ∧ H1 = []) := by
  refine fn_enter (args := [_, _]) Tryz.func7 rfl Tryz.ntmps7 rfl hH ?_
  refine pn_seq ?_
  refine pn_plain [] rfl ?_
  refine TE_boxC (objV x xd xe xp).cells rfl rfl rfl trivial rfl fun b2 hb2 => ?_
  refine TE_boxC (objV y yd ye yp).cells rfl rfl rfl trivial rfl fun b3 hb3 => ?_
  refine TE_q rfl rfl (RD.assign rfl) rfl ?_
  refine TE_nil0 ?_
  refine pn_seq ?_
  refine pn_plain [] rfl ?_
  refine TE_callG _ [] rfl rfl trivial Tryz.call35 rfl rfl rfl (fun w hw => c_alive7  w  (hw.sp (fun a => by simp -failIfUnchanged <;> omega))) (fun a => by simp -failIfUnchanged <;> omega) ?_
  rintro v1 H2 ⟨rfl, rfl⟩ -
  refine TE_q rfl rfl (RD.assign rfl) rfl ?_
  refine TE_nil0 ?_
  refine pn_seq ?_
  refine pn_seq ?_
  refine pn_plain [] rfl ?_
  refine TE_l rfl rfl trivial rfl (RD.loadA (i := 1) Tryz.isAgg48 Tryz.sizeOf48 rfl rfl (Nat.le_of_ble_eq_true rfl) (obj_all _ _ _ _)) rfl ?_
  refine TE_callG _ ((0, .cells (wfV 8 (s8f shaB)).cells 107 (0, 0)) :: (1, .cells (wfV 64 (gtf shaK)).cells 217 (0, 0)) :: HX) rfl rfl trivial Tryz.call24 rfl rfl rfl (fun w hw => c_great x xd xe xp ((0, .cells (wfV 8 (s8f shaB)).cells 107 (0, 0)) :: (1, .cells (wfV 64 (gtf shaK)).cells 217 (0, 0)) :: HX) w (hbxd.mono (fun _ hw => hw.sp (fun a => by simp -failIfUnchanged <;> omega))) (hbxe.mono (fun _ hw => hw.sp (fun a => by simp -failIfUnchanged <;> omega))) (hbxp.mono (fun _ hw => hw.sp (fun a => by simp -failIfUnchanged <;> omega))) hox (hw.sp (fun a => by simp -failIfUnchanged <;> omega))) (fun a => by simp -failIfUnchanged <;> omega) ?_
  rintro v3 H4 ⟨rfl, rfl⟩ -
  refine TE_q rfl rfl (RD.gtr rfl rfl) rfl ?_
  refine TE_q rfl rfl (RD.move rfl) rfl ?_
  refine TE_join (σ := Unit) (fun _ => [(2, .pointer (some ⟨b2, 0, none⟩)), (3, .pointer (some ⟨b3, 0, none⟩)), (5, .bool true), (27, .bool ((decide (0 < (greatI x))) || (decide (0 < (greatI y)))))]) (fun _ => ((b3, .cells (objV y yd ye yp).cells 48 (0, 0)) :: (b2, .cells (objV x xd xe xp).cells 48 (0, 0)) :: (0, .cells (wfV 8 (s8f shaB)).cells 107 (0, 0)) :: (1, .cells (wfV 64 (gtf shaK)).cells 217 (0, 0)) :: HX)) (fun _ => True) ?_ ?_
  · refine TE_dec (fun hf5 => ?_) (fun hf5 => ?_)
    · refine TE_s rfl rfl rfl rfl rfl ?_
      refine TE_s rfl rfl rfl rfl rfl ?_
      refine TE_s rfl rfl rfl rfl rfl ?_
      refine TE_q rfl rfl (RD.pickT rfl rfl) rfl ?_
      refine TE_q rfl rfl (RD.move rfl) rfl ?_
      refine TE_s rfl rfl rfl rfl rfl ?_
      refine TE_s rfl rfl rfl rfl rfl ?_
      refine TE_q rfl rfl (RD.pickT rfl rfl) rfl ?_
      refine TE_nil0 ?_
      exact pn_give () trivial ⟨rfl, rfl, rfl, congrArg (fun b => some (Value.bool b)) (by first | (simp [hf5]; done) | (simp only [decide_eq_true hf5]; rfl) | (simp only [decide_eq_true hf5]; simp; done)), trivial⟩ (fun _ hw => hw.sp (fun a => by simp -failIfUnchanged <;> omega))
    · refine TE_l rfl rfl ⟨_, rfl, rfl⟩ rfl (RD.loadA (i := 0) Tryz.isAgg48 Tryz.sizeOf48 rfl rfl (Nat.le_of_ble_eq_true rfl) (obj_all _ _ _ _)) rfl ?_
      refine TE_callG _ ((0, .cells (wfV 8 (s8f shaB)).cells 107 (0, 0)) :: (1, .cells (wfV 64 (gtf shaK)).cells 217 (0, 0)) :: HX) rfl rfl ⟨_, rfl, rfl⟩ Tryz.call24 rfl rfl rfl (fun w hw => c_great y yd ye yp ((0, .cells (wfV 8 (s8f shaB)).cells 107 (0, 0)) :: (1, .cells (wfV 64 (gtf shaK)).cells 217 (0, 0)) :: HX) w (hbyd.mono (fun _ hw => hw.sp (fun a => by simp -failIfUnchanged <;> omega))) (hbye.mono (fun _ hw => hw.sp (fun a => by simp -failIfUnchanged <;> omega))) (hbyp.mono (fun _ hw => hw.sp (fun a => by simp -failIfUnchanged <;> omega))) hoy (hw.sp (fun a => by simp -failIfUnchanged <;> omega))) (fun a => by simp -failIfUnchanged <;> omega) ?_
      rintro v6 H7 ⟨rfl, rfl⟩ -
      refine TE_gq rfl rfl rfl rfl (RD.gtr rfl rfl) rfl ?_
      refine TE_q rfl rfl (RD.pickF rfl rfl) rfl ?_
      refine TE_q rfl rfl (RD.move rfl) rfl ?_
      refine TE_dec (fun hf8 => ?_) (fun hf8 => ?_)
      · refine TE_s rfl rfl rfl rfl rfl ?_
        refine TE_s rfl rfl rfl rfl rfl ?_
        refine TE_q rfl rfl (RD.pickT rfl rfl) rfl ?_
        refine TE_nil0 ?_
        exact pn_give () trivial ⟨rfl, rfl, rfl, congrArg (fun b => some (Value.bool b)) (by first | (simp [hf5, hf8]; done) | (simp only [decide_eq_false hf5, decide_eq_true hf8]; rfl) | (simp only [decide_eq_false hf5, decide_eq_true hf8]; simp; done)), trivial⟩ (fun _ hw => hw.sp (fun a => by simp -failIfUnchanged <;> omega))
      · refine TE_gq rfl rfl rfl rfl (RD.move rfl) rfl ?_
        refine TE_gq rfl rfl rfl rfl (RD.as (v := .bool false) (RD.not rfl) rfl) rfl ?_
        refine TE_q rfl rfl (RD.pickF rfl rfl) rfl ?_
        refine TE_nil0 ?_
        exact pn_give () trivial ⟨rfl, rfl, rfl, congrArg (fun b => some (Value.bool b)) (by first | (simp [hf5, hf8]; done) | (simp only [decide_eq_false hf5, decide_eq_false hf8]; rfl) | (simp only [decide_eq_false hf5, decide_eq_false hf8]; simp; done)), trivial⟩ (fun _ hw => hw.sp (fun a => by simp -failIfUnchanged <;> omega))
  rintro _ -
  refine pn_cond rfl (fun hc9 => ?_) (fun hc9 => ?_)
  · simp only [Bool.or_eq_true, decide_eq_true_eq] at hc9
    refine pn_seq ?_
    refine pn_plainG [] [(0, .cells (wfV 8 (s8f shaB)).cells 107 (0, 0)), (1, .cells (wfV 64 (gtf shaK)).cells 217 (0, 0))] rfl (fun a => by simp -failIfUnchanged <;> omega) ?_
    refine TE_q rfl rfl (RD.move rfl) rfl ?_
    refine TE_q rfl rfl (RD.assign rfl) rfl ?_
    refine TE_nil0 ?_
    refine pn_ret ?_
    exact pn_doneS [] rfl rfl ⟨rfl, rfl⟩ (fun _ => Nat.zero_le _) (fun _ he => nomatch he)
  · simp only [Bool.or_eq_false_iff, decide_eq_false_iff_not] at hc9
    have hkx := great_ok hox hc9.1
    have hky := great_ok hoy hc9.2
    have hx1 := hkx.d; have hx2 := hkx.e; have hx3 := hkx.p; have hx4 := hkx.m
    have hy1 := hky.d; have hy2 := hky.e; have hy3 := hky.p; have hy4 := hky.m
    refine pn_skip ?_
    refine pn_seq ?_
    refine pn_plain [] rfl ?_
    refine TE_l rfl rfl trivial rfl (RD.loadA (i := 1) Tryz.isAgg48 Tryz.sizeOf48 rfl rfl (Nat.le_of_ble_eq_true rfl) (obj_all _ _ _ _)) rfl ?_
    refine TE_callG _ ((0, .cells (wfV 8 (s8f shaB)).cells 107 (0, 0)) :: (1, .cells (wfV 64 (gtf shaK)).cells 217 (0, 0)) :: HX) rfl rfl trivial Tryz.call26 rfl rfl rfl (fun w hw => c_obEncode x xd xe xp ((0, .cells (wfV 8 (s8f shaB)).cells 107 (0, 0)) :: (1, .cells (wfV 64 (gtf shaK)).cells 217 (0, 0)) :: HX) w (hbxd.mono (fun _ hw => hw.sp (fun a => by simp -failIfUnchanged <;> omega))) (hbxe.mono (fun _ hw => hw.sp (fun a => by simp -failIfUnchanged <;> omega))) (hbxp.mono (fun _ hw => hw.sp (fun a => by simp -failIfUnchanged <;> omega))) hkx (hw.sp (fun a => by simp -failIfUnchanged <;> omega))) (fun a => by simp -failIfUnchanged <;> omega) ?_
    rintro v16 H17 (⟨hok10, st11, hbo12, rfl, rfl⟩ | ⟨hok15, rfl, rfl⟩) hX18
    · have hRD14 : Rdx 1 (byteC) (bldMx 5 (byteC) (obB x) st11) (bldVx (obB x) st11) (obB x) := hbo12.rdx (u := 5) byteC_len; refine TE_sp ((b3, .cells (objV y yd ye yp).cells 48 (0, 0)) :: (b2, .cells (objV x xd xe xp).cells 48 (0, 0)) :: (0, .cells (wfV 8 (s8f shaB)).cells 107 (0, 0)) :: (1, .cells (wfV 64 (gtf shaK)).cells 217 (0, 0)) :: ((bldMx 5 (byteC) (obB x) st11) ++ HX)) (fun a => by simp -failIfUnchanged <;> omega) ?_
      refine TE_q rfl rfl (RD.move rfl) rfl ?_
      refine TE_q rfl rfl (RD.extract rfl rfl) rfl ?_
      refine TE_q rfl rfl (RD.extract rfl rfl) rfl ?_
      refine TE_q rfl rfl (RD.assign rfl) rfl ?_
      refine TE_q rfl rfl (RD.assign rfl) rfl ?_
      refine TE_nil0 ?_
      refine pn_seq ?_
      refine pn_plain [] rfl ?_
      refine TE_l rfl rfl trivial rfl (RD.loadA (i := 0) Tryz.isAgg48 Tryz.sizeOf48 rfl rfl (Nat.le_of_ble_eq_true rfl) (obj_all _ _ _ _)) rfl ?_
      refine TE_callG _ ((0, .cells (wfV 8 (s8f shaB)).cells 107 (0, 0)) :: (1, .cells (wfV 64 (gtf shaK)).cells 217 (0, 0)) :: HX) rfl rfl trivial Tryz.call26 rfl rfl rfl (fun w hw => c_obEncode y yd ye yp ((0, .cells (wfV 8 (s8f shaB)).cells 107 (0, 0)) :: (1, .cells (wfV 64 (gtf shaK)).cells 217 (0, 0)) :: HX) w (hbyd.mono (fun _ hw => hw.sp (fun a => by simp -failIfUnchanged <;> omega))) (hbye.mono (fun _ hw => hw.sp (fun a => by simp -failIfUnchanged <;> omega))) (hbyp.mono (fun _ hw => hw.sp (fun a => by simp -failIfUnchanged <;> omega))) hky (hw.sp (fun a => by simp -failIfUnchanged <;> omega))) (fun a => by simp -failIfUnchanged <;> omega) ?_
      rintro v25 H26 (⟨hok19, st20, hbo21, rfl, rfl⟩ | ⟨hok24, rfl, rfl⟩) hX27
      · have hRD23 : Rdx 1 (byteC) (bldMx 5 (byteC) (obB y) st20) (bldVx (obB y) st20) (obB y) := hbo21.rdx (u := 5) byteC_len; refine TE_sp ((b3, .cells (objV y yd ye yp).cells 48 (0, 0)) :: (b2, .cells (objV x xd xe xp).cells 48 (0, 0)) :: (0, .cells (wfV 8 (s8f shaB)).cells 107 (0, 0)) :: (1, .cells (wfV 64 (gtf shaK)).cells 217 (0, 0)) :: ((bldMx 5 (byteC) (obB y) st20) ++ ((bldMx 5 (byteC) (obB x) st11) ++ HX))) (fun a => by simp -failIfUnchanged <;> omega) ?_
        refine TE_q rfl rfl (RD.move rfl) rfl ?_
        refine TE_q rfl rfl (RD.extract rfl rfl) rfl ?_
        refine TE_q rfl rfl (RD.extract rfl rfl) rfl ?_
        refine TE_q rfl rfl (RD.assign rfl) rfl ?_
        refine TE_q rfl rfl (RD.assign rfl) rfl ?_
        refine TE_nil0 ?_
        refine pn_seq ?_
        refine pn_seq ?_
        refine pn_plain [] rfl ?_
        refine TE_q rfl rfl (RD.move rfl) rfl ?_
        refine TE_q rfl rfl (RD.as (v := .bool false) (RD.neq rfl rfl) rfl) rfl ?_
        refine TE_q rfl rfl (RD.move rfl) rfl ?_
        refine TE_gq rfl rfl rfl rfl (RD.move rfl) rfl ?_
        refine TE_gq rfl rfl rfl rfl (RD.as (v := .bool false) (RD.neq rfl rfl) rfl) rfl ?_
        refine TE_q rfl rfl (RD.pickF rfl rfl) rfl ?_
        refine TE_nil0 ?_
        refine pn_condF rfl ?_
        refine pn_skip ?_
        refine pn_seq ?_
        refine pn_plain [] rfl ?_
        refine TE_l rfl rfl trivial rfl (RD.loadA (i := 1) Tryz.isAgg48 Tryz.sizeOf48 rfl rfl (Nat.le_of_ble_eq_true rfl) (obj_all _ _ _ _)) rfl ?_
        refine TE_l rfl rfl trivial rfl (RD.loadA (i := 0) Tryz.isAgg48 Tryz.sizeOf48 rfl rfl (Nat.le_of_ble_eq_true rfl) (obj_all _ _ _ _)) rfl ?_
        refine TE_callG _ ((0, .cells (wfV 8 (s8f shaB)).cells 107 (0, 0)) :: (1, .cells (wfV 64 (gtf shaK)).cells 217 (0, 0)) :: HX) rfl rfl trivial Tryz.call36 rfl rfl rfl (fun w hw => c_obSame x xd xe xp y yd ye yp ((0, .cells (wfV 8 (s8f shaB)).cells 107 (0, 0)) :: (1, .cells (wfV 64 (gtf shaK)).cells 217 (0, 0)) :: HX) w (hbxd.mono (fun _ hw => hw.sp (fun a => by simp -failIfUnchanged <;> omega))) (hbxe.mono (fun _ hw => hw.sp (fun a => by simp -failIfUnchanged <;> omega))) (hbxp.mono (fun _ hw => hw.sp (fun a => by simp -failIfUnchanged <;> omega))) (hbyd.mono (fun _ hw => hw.sp (fun a => by simp -failIfUnchanged <;> omega))) (hbye.mono (fun _ hw => hw.sp (fun a => by simp -failIfUnchanged <;> omega))) (hbyp.mono (fun _ hw => hw.sp (fun a => by simp -failIfUnchanged <;> omega))) ⟨(by first | omega | (dsimp only [List.length_nil]; omega) | simp), (by first | omega | (dsimp only [List.length_nil]; omega) | simp)⟩ ⟨(by first | omega | (dsimp only [List.length_nil]; omega) | simp), (by first | omega | (dsimp only [List.length_nil]; omega) | simp)⟩ (hw.sp (fun a => by simp -failIfUnchanged <;> omega))) (fun a => by simp -failIfUnchanged <;> omega) ?_
        rintro v28 H29 ⟨rfl, rfl⟩ -
        refine TE_q rfl rfl (RD.assign rfl) rfl ?_
        refine TE_nil0 ?_
        refine pn_seq ?_
        refine pn_plain [] rfl ?_
        refine TE_l rfl rfl trivial rfl (RD.loadA (i := 1) Tryz.isAgg48 Tryz.sizeOf48 rfl rfl (Nat.le_of_ble_eq_true rfl) (obj_all _ _ _ _)) rfl ?_
        refine TE_callG _ ((0, .cells (wfV 8 (s8f shaB)).cells 107 (0, 0)) :: (1, .cells (wfV 64 (gtf shaK)).cells 217 (0, 0)) :: HX) rfl rfl trivial Tryz.call30 rfl rfl rfl (fun w hw => c_obID x xd xe xp HX w (hbxd.mono (fun _ hw => hw.sp (fun a => by simp -failIfUnchanged <;> omega))) (hbxe.mono (fun _ hw => hw.sp (fun a => by simp -failIfUnchanged <;> omega))) (hbxp.mono (fun _ hw => hw.sp (fun a => by simp -failIfUnchanged <;> omega))) hkx (hw.sp (fun a => by simp -failIfUnchanged <;> omega))) (fun a => by simp -failIfUnchanged <;> omega) ?_
        rintro v30 H31 ⟨rfl, rfl⟩ -
        refine TE_q rfl rfl (RD.move rfl) rfl ?_
        refine TE_q rfl rfl (RD.extract rfl rfl) rfl ?_
        refine TE_q rfl rfl (RD.extract rfl rfl) rfl ?_
        refine TE_allocC (idV (fun _ => 0)).cells rfl Tryz.zeroValue36 rfl trivial rfl fun b11 hb11 => ?_
        refine TE_putCW 0 (idV (fun _ => 0)).cells (idV (idO x)).cells ((b11, .cells (idV (idO x)).cells 36 (0, 0)) :: (b3, .cells (objV y yd ye yp).cells 48 (0, 0)) :: (b2, .cells (objV x xd xe xp).cells 48 (0, 0)) :: (0, .cells (wfV 8 (s8f shaB)).cells 107 (0, 0)) :: (1, .cells (wfV 64 (gtf shaK)).cells 217 (0, 0)) :: ((bldMx 5 (byteC) (obB y) st20) ++ ((bldMx 5 (byteC) (obB x) st11) ++ HX))) rfl Tryz.sizeOf36 trivial rfl rfl rfl rfl rfl rfl rfl rfl (.inl hb11) ?_
        refine TE_q rfl rfl (RD.assign rfl) rfl ?_
        refine TE_nil0 ?_
        refine pn_seq ?_
        refine pn_plain [] rfl ?_
        refine TE_l rfl rfl trivial rfl (RD.loadA (i := 1) Tryz.isAgg48 Tryz.sizeOf48 rfl rfl (Nat.le_of_ble_eq_true rfl) (obj_all _ _ _ _)) rfl ?_
        refine TE_callG _ ((0, .cells (wfV 8 (s8f shaB)).cells 107 (0, 0)) :: (1, .cells (wfV 64 (gtf shaK)).cells 217 (0, 0)) :: HX) rfl rfl trivial Tryz.call30 rfl rfl rfl (fun w hw => c_obID y yd ye yp HX w (hbyd.mono (fun _ hw => hw.sp (fun a => by simp -failIfUnchanged <;> omega))) (hbye.mono (fun _ hw => hw.sp (fun a => by simp -failIfUnchanged <;> omega))) (hbyp.mono (fun _ hw => hw.sp (fun a => by simp -failIfUnchanged <;> omega))) hky (hw.sp (fun a => by simp -failIfUnchanged <;> omega))) (fun a => by simp -failIfUnchanged <;> omega) ?_
        rintro v32 H33 ⟨rfl, rfl⟩ -
        refine TE_q rfl rfl (RD.move rfl) rfl ?_
        refine TE_q rfl rfl (RD.extract rfl rfl) rfl ?_
        refine TE_q rfl rfl (RD.extract rfl rfl) rfl ?_
        refine TE_allocC (idV (fun _ => 0)).cells rfl Tryz.zeroValue36 rfl trivial rfl fun b13 hb13 => ?_
        refine TE_putCW 0 (idV (fun _ => 0)).cells (idV (idO y)).cells ((b13, .cells (idV (idO y)).cells 36 (0, 0)) :: (b11, .cells (idV (idO x)).cells 36 (0, 0)) :: (b3, .cells (objV y yd ye yp).cells 48 (0, 0)) :: (b2, .cells (objV x xd xe xp).cells 48 (0, 0)) :: (0, .cells (wfV 8 (s8f shaB)).cells 107 (0, 0)) :: (1, .cells (wfV 64 (gtf shaK)).cells 217 (0, 0)) :: ((bldMx 5 (byteC) (obB y) st20) ++ ((bldMx 5 (byteC) (obB x) st11) ++ HX))) rfl Tryz.sizeOf36 trivial rfl rfl rfl rfl rfl rfl rfl rfl (.inl hb13) ?_
        refine TE_q rfl rfl (RD.assign rfl) rfl ?_
        refine TE_nil0 ?_
        refine pn_seq ?_
        refine pn_drawG [12, 14, 22, 23, 26, 28, 35, 36] [] ((b13, .cells (idV (idO y)).cells 36 (0, 0)) :: (b11, .cells (idV (idO x)).cells 36 (0, 0)) :: (b3, .cells (objV y yd ye yp).cells 48 (0, 0)) :: (b2, .cells (objV x xd xe xp).cells 48 (0, 0)) :: (0, .cells (wfV 8 (s8f shaB)).cells 107 (0, 0)) :: (1, .cells (wfV 64 (gtf shaK)).cells 217 (0, 0)) :: ((bldMx 5 (byteC) (obB y) st20) ++ ((bldMx 5 (byteC) (obB x) st11) ++ HX))) rfl rfl (by kernel_rfl) (fun a => by simp -failIfUnchanged <;> omega) ?_
        refine TE_q rfl rfl (RD.move rfl) rfl ?_
        refine TE_q rfl rfl (RD.move rfl) rfl ?_
        refine TE_gq rfl rfl rfl rfl (RD.move rfl) rfl ?_
        refine TE_gq rfl rfl rfl rfl (RD.eql rfl rfl) rfl ?_
        refine TE_q rfl rfl (RD.pickT rfl rfl) rfl ?_
        refine TE_q rfl rfl (RD.move rfl) rfl ?_
        refine TE_join (σ := Unit) (fun _ => [(4, .bool ((decide ((err (obOkB x) 70) = 0)) && ((decide ((err (obOkB y) 70) = 0)) && (((obSame x y) == (decide ((⟨(obB x).toArray⟩ : ByteArray) = (⟨(obB y).toArray⟩ : ByteArray)))) && (((!(obSame x y)) && ((obSame y x) == (obSame x y))) || ((!(!(obSame x y))) && ((sameN 32 (idO x) (idO y)) && ((sameGL same_lnk (linksL x) (linksL y)) && ((obSame y x) == (obSame x y))))))))))]) (fun _ => ((b13, .cells (idV (idO y)).cells 36 (0, 0)) :: (b11, .cells (idV (idO x)).cells 36 (0, 0)) :: (b3, .cells (objV y yd ye yp).cells 48 (0, 0)) :: (b2, .cells (objV x xd xe xp).cells 48 (0, 0)) :: (0, .cells (wfV 8 (s8f shaB)).cells 107 (0, 0)) :: (1, .cells (wfV 64 (gtf shaK)).cells 217 (0, 0)) :: ((bldMx 5 (byteC) (obB y) st20) ++ ((bldMx 5 (byteC) (obB x) st11) ++ HX)))) (fun _ => True) ?_ ?_
        · refine TE_dec (fun hf34 => ?_) (fun hf34 => ?_)
          · refine TE_gq rfl rfl rfl rfl (RD.move rfl) rfl ?_
            refine TE_gq rfl rfl rfl rfl (RD.eql rfl rfl) rfl ?_
            refine TE_q rfl rfl (RD.pickT rfl rfl) rfl ?_
            refine TE_q rfl rfl (RD.move rfl) rfl ?_
            refine TE_dec (fun hf35 => ?_) (fun hf35 => ?_)
            · refine TE_gq rfl rfl rfl rfl (RD.move rfl) rfl ?_
              refine TE_gq rfl rfl rfl rfl (RD.move rfl) rfl ?_
              refine TE_gq rfl rfl rfl rfl (RD.str_of_bytes Tryz.underlying32 Tryz.underlying9 Tryz.underlying5 rfl (BytesIn.mono ((Rdb.of_x hRD14)).bytes (fun _ hw => hw.sp (fun a => by simp -failIfUnchanged <;> omega)))) rfl ?_
              refine TE_gq rfl rfl rfl rfl (RD.move rfl) rfl ?_
              refine TE_gq rfl rfl rfl rfl (RD.str_of_bytes Tryz.underlying32 Tryz.underlying9 Tryz.underlying5 rfl (BytesIn.mono ((Rdb.of_x hRD23)).bytes (fun _ hw => hw.sp (fun a => by simp -failIfUnchanged <;> omega)))) rfl ?_
              refine TE_gq rfl rfl rfl rfl (RD.eql_string rfl rfl) rfl ?_
              refine TE_gq rfl rfl rfl rfl (RD.eql_bool Tryz.runUnderlying4 rfl rfl) rfl ?_
              refine TE_q rfl rfl (RD.pickT rfl rfl) rfl ?_
              refine TE_q rfl rfl (RD.move rfl) rfl ?_
              refine TE_bool (fun hf36 => ?_) (fun hf36 => ?_)
              · refine TE_gq rfl rfl rfl rfl (RD.move rfl) rfl ?_
                refine TE_gq rfl rfl rfl rfl (RD.not rfl) rfl ?_
                refine TE_gq rfl rfl rfl rfl (RD.move rfl) rfl ?_
                refine TE_bool (fun hf37 => ?_) (fun hf37 => ?_)
                · refine TE_s rfl rfl rfl rfl rfl ?_
                  refine TE_s rfl rfl rfl rfl rfl ?_
                  refine TE_s rfl rfl rfl rfl rfl ?_
                  refine TE_s rfl rfl rfl rfl rfl ?_
                  refine TE_su rfl rfl rfl rfl ?_
                  refine TE_su rfl rfl rfl rfl ?_
                  refine TE_su rfl rfl rfl rfl ?_
                  refine TE_su rfl rfl rfl rfl ?_
                  refine TE_su rfl rfl rfl rfl ?_
                  refine TE_s rfl rfl rfl rfl rfl ?_
                  refine TE_gq rfl rfl rfl rfl (RD.pickT rfl rfl) rfl ?_
                  refine TE_q rfl rfl (RD.pickT rfl rfl) rfl ?_
                  refine TE_q rfl rfl (RD.move rfl) rfl ?_
                  refine TE_gq rfl rfl rfl rfl (RD.loadA (i := 2) Tryz.isAgg48 Tryz.sizeOf48 rfl rfl (Nat.le_of_ble_eq_true rfl) (obj_all _ _ _ _)) rfl ?_
                  refine TE_gq rfl rfl rfl rfl (RD.loadA (i := 3) Tryz.isAgg48 Tryz.sizeOf48 rfl rfl (Nat.le_of_ble_eq_true rfl) (obj_all _ _ _ _)) rfl ?_
                  refine TE_callG _ ((0, .cells (wfV 8 (s8f shaB)).cells 107 (0, 0)) :: (1, .cells (wfV 64 (gtf shaK)).cells 217 (0, 0)) :: HX) rfl rfl ⟨_, rfl, rfl⟩ Tryz.call36 rfl rfl rfl (fun w hw => c_obSame y yd ye yp x xd xe xp ((0, .cells (wfV 8 (s8f shaB)).cells 107 (0, 0)) :: (1, .cells (wfV 64 (gtf shaK)).cells 217 (0, 0)) :: HX) w (hbyd.mono (fun _ hw => hw.sp (fun a => by simp -failIfUnchanged <;> omega))) (hbye.mono (fun _ hw => hw.sp (fun a => by simp -failIfUnchanged <;> omega))) (hbyp.mono (fun _ hw => hw.sp (fun a => by simp -failIfUnchanged <;> omega))) (hbxd.mono (fun _ hw => hw.sp (fun a => by simp -failIfUnchanged <;> omega))) (hbxe.mono (fun _ hw => hw.sp (fun a => by simp -failIfUnchanged <;> omega))) (hbxp.mono (fun _ hw => hw.sp (fun a => by simp -failIfUnchanged <;> omega))) ⟨(by first | omega | (dsimp only [List.length_nil]; omega) | simp), (by first | omega | (dsimp only [List.length_nil]; omega) | simp)⟩ ⟨(by first | omega | (dsimp only [List.length_nil]; omega) | simp), (by first | omega | (dsimp only [List.length_nil]; omega) | simp)⟩ (hw.sp (fun a => by simp -failIfUnchanged <;> omega))) (fun a => by simp -failIfUnchanged <;> omega) ?_
                  rintro v38 H39 ⟨rfl, rfl⟩ -
                  refine TE_gq rfl rfl rfl rfl (RD.move rfl) rfl ?_
                  refine TE_gq rfl rfl rfl rfl (RD.eql_bool Tryz.runUnderlying4 rfl rfl) rfl ?_
                  refine TE_q rfl rfl (RD.pickT rfl rfl) rfl ?_
                  refine TE_q rfl rfl (RD.assign rfl) rfl ?_
                  refine TE_nil ?_
                  exact pn_give () trivial ⟨congrArg (fun b => some (Value.bool b)) (by first | (simp [hf34, hf35, hf36, hf37]; done) | (simp only [decide_eq_true hf34, decide_eq_true hf35, hf36, hf37]; rfl) | (simp only [decide_eq_true hf34, decide_eq_true hf35, hf36, hf37]; simp; done)), trivial⟩ (fun _ hw => hw.sp (fun a => by simp -failIfUnchanged <;> omega))
                · refine TE_gq rfl rfl rfl rfl (RD.loadA (i := 1) Tryz.isAgg36 Tryz.sizeOf36 rfl rfl (Nat.le_of_ble_eq_true rfl) (id_all _)) rfl ?_
                  refine TE_gq rfl rfl rfl rfl (RD.loadA (i := 0) Tryz.isAgg36 Tryz.sizeOf36 rfl rfl (Nat.le_of_ble_eq_true rfl) (id_all _)) rfl ?_
                  refine TE_gq rfl rfl rfl rfl (RD.eql_agg Tryz.eqGuardType36 (eq_id (idO x) (idO y)) rfl rfl) rfl ?_
                  refine TE_gq rfl rfl rfl rfl (RD.move rfl) rfl ?_
                  refine TE_bool (fun hf40 => ?_) (fun hf40 => ?_)
                  · refine TE_gq rfl rfl rfl rfl (RD.loadA (i := 3) Tryz.isAgg48 Tryz.sizeOf48 rfl rfl (Nat.le_of_ble_eq_true rfl) (obj_all _ _ _ _)) rfl ?_
                    refine TE_callG _ ((0, .cells (wfV 8 (s8f shaB)).cells 107 (0, 0)) :: (1, .cells (wfV 64 (gtf shaK)).cells 217 (0, 0)) :: HX) rfl rfl ⟨_, rfl, rfl⟩ Tryz.call40 rfl rfl rfl (fun w hw => c_obLinks x xd xe xp ((0, .cells (wfV 8 (s8f shaB)).cells 107 (0, 0)) :: (1, .cells (wfV 64 (gtf shaK)).cells 217 (0, 0)) :: HX) w (hbxd.mono (fun _ hw => hw.sp (fun a => by simp -failIfUnchanged <;> omega))) (hbxe.mono (fun _ hw => hw.sp (fun a => by simp -failIfUnchanged <;> omega))) (hbxp.mono (fun _ hw => hw.sp (fun a => by simp -failIfUnchanged <;> omega))) hkx (hw.sp (fun a => by simp -failIfUnchanged <;> omega))) (fun a => by simp -failIfUnchanged <;> omega) ?_
                    rintro v45 H46 ⟨st41, hbo42, rfl, rfl⟩ hX43
                    have hRD44 : Rdx 33 (lnkC) (bldMx 46 (lnkC) (linksL x) st41) (bldVx (linksL x) st41) (linksL x) := hbo42.rdx (u := 46) lnkC_len
                    refine TE_sp (bldMx 46 (lnkC) (linksL x) st41) (fun a => by simp -failIfUnchanged <;> omega) ?_
                    refine TE_gq rfl rfl rfl rfl (RD.loadA (i := 2) Tryz.isAgg48 Tryz.sizeOf48 rfl rfl (Nat.le_of_ble_eq_true rfl) (obj_all _ _ _ _)) rfl ?_
                    refine TE_callG _ ((0, .cells (wfV 8 (s8f shaB)).cells 107 (0, 0)) :: (1, .cells (wfV 64 (gtf shaK)).cells 217 (0, 0)) :: HX) rfl rfl ⟨_, rfl, rfl⟩ Tryz.call40 rfl rfl rfl (fun w hw => c_obLinks y yd ye yp ((0, .cells (wfV 8 (s8f shaB)).cells 107 (0, 0)) :: (1, .cells (wfV 64 (gtf shaK)).cells 217 (0, 0)) :: HX) w (hbyd.mono (fun _ hw => hw.sp (fun a => by simp -failIfUnchanged <;> omega))) (hbye.mono (fun _ hw => hw.sp (fun a => by simp -failIfUnchanged <;> omega))) (hbyp.mono (fun _ hw => hw.sp (fun a => by simp -failIfUnchanged <;> omega))) hky (hw.sp (fun a => by simp -failIfUnchanged <;> omega))) (fun a => by simp -failIfUnchanged <;> omega) ?_
                    rintro v51 H52 ⟨st47, hbo48, rfl, rfl⟩ hX49
                    have hRD50 : Rdx 33 (lnkC) (bldMx 46 (lnkC) (linksL y) st47) (bldVx (linksL y) st47) (linksL y) := hbo48.rdx (u := 46) lnkC_len
                    refine TE_sp ((bldMx 46 (lnkC) (linksL y) st47) ++ (bldMx 46 (lnkC) (linksL x) st41)) (fun a => by simp -failIfUnchanged <;> omega) ?_
                    refine TE_callG _ ((bldMx 46 (lnkC) (linksL y) st47) ++ (bldMx 46 (lnkC) (linksL x) st41)) rfl rfl ⟨_, rfl, rfl⟩ Tryz.call39 rfl rfl rfl (fun w hw => c_r7Lists (bldVx (linksL x) st41) (linksL x) (bldVx (linksL y) st47) (linksL y) ((bldMx 46 (lnkC) (linksL y) st47) ++ (bldMx 46 (lnkC) (linksL x) st41)) w (hRD44.mono (fun _ hw => hw.sp (fun a => by simp -failIfUnchanged <;> omega))) (Nat.le_trans (lnksL_len x hkx) (by decide)) (hRD50.mono (fun _ hw => hw.sp (fun a => by simp -failIfUnchanged <;> omega))) (Nat.le_trans (lnksL_len y hky) (by decide)) (hw.sp (fun a => by simp -failIfUnchanged <;> omega))) (fun a => by simp -failIfUnchanged <;> omega) ?_
                    rintro v53 H54 ⟨rfl, rfl⟩ -
                    refine TE_gq rfl rfl rfl rfl (RD.pickT rfl rfl) rfl ?_
                    refine TE_gq rfl rfl rfl rfl (RD.pickF rfl rfl) rfl ?_
                    refine TE_q rfl rfl (RD.pickT rfl rfl) rfl ?_
                    refine TE_q rfl rfl (RD.move rfl) rfl ?_
                    refine TE_bool (fun hf55 => ?_) (fun hf55 => ?_)
                    · refine TE_gq rfl rfl rfl rfl (RD.loadA (i := 2) Tryz.isAgg48 Tryz.sizeOf48 rfl rfl (Nat.le_of_ble_eq_true rfl) (obj_all _ _ _ _)) rfl ?_
                      refine TE_gq rfl rfl rfl rfl (RD.loadA (i := 3) Tryz.isAgg48 Tryz.sizeOf48 rfl rfl (Nat.le_of_ble_eq_true rfl) (obj_all _ _ _ _)) rfl ?_
                      refine TE_callG _ ((0, .cells (wfV 8 (s8f shaB)).cells 107 (0, 0)) :: (1, .cells (wfV 64 (gtf shaK)).cells 217 (0, 0)) :: HX) rfl rfl ⟨_, rfl, rfl⟩ Tryz.call36 rfl rfl rfl (fun w hw => c_obSame y yd ye yp x xd xe xp ((0, .cells (wfV 8 (s8f shaB)).cells 107 (0, 0)) :: (1, .cells (wfV 64 (gtf shaK)).cells 217 (0, 0)) :: HX) w (hbyd.mono (fun _ hw => hw.sp (fun a => by simp -failIfUnchanged <;> omega))) (hbye.mono (fun _ hw => hw.sp (fun a => by simp -failIfUnchanged <;> omega))) (hbyp.mono (fun _ hw => hw.sp (fun a => by simp -failIfUnchanged <;> omega))) (hbxd.mono (fun _ hw => hw.sp (fun a => by simp -failIfUnchanged <;> omega))) (hbxe.mono (fun _ hw => hw.sp (fun a => by simp -failIfUnchanged <;> omega))) (hbxp.mono (fun _ hw => hw.sp (fun a => by simp -failIfUnchanged <;> omega))) ⟨(by first | omega | (dsimp only [List.length_nil]; omega) | simp), (by first | omega | (dsimp only [List.length_nil]; omega) | simp)⟩ ⟨(by first | omega | (dsimp only [List.length_nil]; omega) | simp), (by first | omega | (dsimp only [List.length_nil]; omega) | simp)⟩ (hw.sp (fun a => by simp -failIfUnchanged <;> omega))) (fun a => by simp -failIfUnchanged <;> omega) ?_
                      rintro v56 H57 ⟨rfl, rfl⟩ -
                      refine TE_gq rfl rfl rfl rfl (RD.move rfl) rfl ?_
                      refine TE_gq rfl rfl rfl rfl (RD.eql_bool Tryz.runUnderlying4 rfl rfl) rfl ?_
                      refine TE_q rfl rfl (RD.pickT rfl rfl) rfl ?_
                      refine TE_q rfl rfl (RD.assign rfl) rfl ?_
                      refine TE_nil ?_
                      exact pn_give () trivial ⟨congrArg (fun b => some (Value.bool b)) (by first | (simp [hf34, hf35, hf36, hf37, hf40, hf55]; done) | (simp only [decide_eq_true hf34, decide_eq_true hf35, hf36, hf37, hf40, hf55]; rfl) | (simp only [decide_eq_true hf34, decide_eq_true hf35, hf36, hf37, hf40, hf55]; simp; done)), trivial⟩ (fun _ hw => hw.sp (fun a => by simp -failIfUnchanged <;> omega))
                    · refine TE_s rfl rfl rfl rfl rfl ?_
                      refine TE_s rfl rfl rfl rfl rfl ?_
                      refine TE_s rfl rfl rfl rfl rfl ?_
                      refine TE_s rfl rfl rfl rfl rfl ?_
                      refine TE_s rfl rfl rfl rfl rfl ?_
                      refine TE_q rfl rfl (RD.pickF rfl rfl) rfl ?_
                      refine TE_q rfl rfl (RD.assign rfl) rfl ?_
                      refine TE_nil ?_
                      exact pn_give () trivial ⟨congrArg (fun b => some (Value.bool b)) (by first | (simp [hf34, hf35, hf36, hf37, hf40, hf55]; done) | (simp only [decide_eq_true hf34, decide_eq_true hf35, hf36, hf37, hf40, hf55]; rfl) | (simp only [decide_eq_true hf34, decide_eq_true hf35, hf36, hf37, hf40, hf55]; simp; done)), trivial⟩ (fun _ hw => hw.sp (fun a => by simp -failIfUnchanged <;> omega))
                  · refine TE_s rfl rfl rfl rfl rfl ?_
                    refine TE_s rfl rfl rfl rfl rfl ?_
                    refine TE_s rfl rfl rfl rfl rfl ?_
                    refine TE_s rfl rfl rfl rfl rfl ?_
                    refine TE_s rfl rfl rfl rfl rfl ?_
                    refine TE_gq rfl rfl rfl rfl (RD.pickF rfl rfl) rfl ?_
                    refine TE_gq rfl rfl rfl rfl (RD.pickF rfl rfl) rfl ?_
                    refine TE_q rfl rfl (RD.pickT rfl rfl) rfl ?_
                    refine TE_q rfl rfl (RD.move rfl) rfl ?_
                    refine TE_s rfl rfl rfl rfl rfl ?_
                    refine TE_s rfl rfl rfl rfl rfl ?_
                    refine TE_s rfl rfl rfl rfl rfl ?_
                    refine TE_s rfl rfl rfl rfl rfl ?_
                    refine TE_s rfl rfl rfl rfl rfl ?_
                    refine TE_q rfl rfl (RD.pickF rfl rfl) rfl ?_
                    refine TE_q rfl rfl (RD.assign rfl) rfl ?_
                    refine TE_nil ?_
                    exact pn_give () trivial ⟨congrArg (fun b => some (Value.bool b)) (by first | (simp [hf34, hf35, hf36, hf37, hf40]; done) | (simp only [decide_eq_true hf34, decide_eq_true hf35, hf36, hf37, hf40]; rfl) | (simp only [decide_eq_true hf34, decide_eq_true hf35, hf36, hf37, hf40]; simp; done)), trivial⟩ (fun _ hw => hw.sp (fun a => by simp -failIfUnchanged <;> omega))
              · refine TE_s rfl rfl rfl rfl rfl ?_
                refine TE_s rfl rfl rfl rfl rfl ?_
                refine TE_s rfl rfl rfl rfl rfl ?_
                refine TE_su rfl rfl rfl rfl ?_
                refine TE_su rfl rfl rfl rfl ?_
                refine TE_su rfl rfl rfl rfl ?_
                refine TE_su rfl rfl rfl rfl ?_
                refine TE_su rfl rfl rfl rfl ?_
                refine TE_su rfl rfl rfl rfl ?_
                refine TE_su rfl rfl rfl rfl ?_
                refine TE_su rfl rfl rfl rfl ?_
                refine TE_su rfl rfl rfl rfl ?_
                refine TE_su rfl rfl rfl rfl ?_
                refine TE_s rfl rfl rfl rfl rfl ?_
                refine TE_q rfl rfl (RD.pickF rfl rfl) rfl ?_
                refine TE_q rfl rfl (RD.move rfl) rfl ?_
                refine TE_s rfl rfl rfl rfl rfl ?_
                refine TE_s rfl rfl rfl rfl rfl ?_
                refine TE_s rfl rfl rfl rfl rfl ?_
                refine TE_s rfl rfl rfl rfl rfl ?_
                refine TE_s rfl rfl rfl rfl rfl ?_
                refine TE_q rfl rfl (RD.pickF rfl rfl) rfl ?_
                refine TE_q rfl rfl (RD.assign rfl) rfl ?_
                refine TE_nil ?_
                exact pn_give () trivial ⟨congrArg (fun b => some (Value.bool b)) (by first | (simp [hf34, hf35, hf36]; done) | (simp only [decide_eq_true hf34, decide_eq_true hf35, hf36]; rfl) | (simp only [decide_eq_true hf34, decide_eq_true hf35, hf36]; simp; done)), trivial⟩ (fun _ hw => hw.sp (fun a => by simp -failIfUnchanged <;> omega))
            · refine TE_s rfl rfl rfl rfl rfl ?_
              refine TE_s rfl rfl rfl rfl rfl ?_
              refine TE_s rfl rfl rfl rfl rfl ?_
              refine TE_s rfl rfl rfl rfl rfl ?_
              refine TE_s rfl rfl rfl rfl rfl ?_
              refine TE_s rfl rfl rfl rfl rfl ?_
              refine TE_s rfl rfl rfl rfl rfl ?_
              refine TE_q rfl rfl (RD.pickF rfl rfl) rfl ?_
              refine TE_q rfl rfl (RD.move rfl) rfl ?_
              refine TE_s rfl rfl rfl rfl rfl ?_
              refine TE_s rfl rfl rfl rfl rfl ?_
              refine TE_s rfl rfl rfl rfl rfl ?_
              refine TE_su rfl rfl rfl rfl ?_
              refine TE_su rfl rfl rfl rfl ?_
              refine TE_su rfl rfl rfl rfl ?_
              refine TE_su rfl rfl rfl rfl ?_
              refine TE_su rfl rfl rfl rfl ?_
              refine TE_su rfl rfl rfl rfl ?_
              refine TE_su rfl rfl rfl rfl ?_
              refine TE_su rfl rfl rfl rfl ?_
              refine TE_su rfl rfl rfl rfl ?_
              refine TE_su rfl rfl rfl rfl ?_
              refine TE_s rfl rfl rfl rfl rfl ?_
              refine TE_q rfl rfl (RD.pickF rfl rfl) rfl ?_
              refine TE_q rfl rfl (RD.move rfl) rfl ?_
              refine TE_s rfl rfl rfl rfl rfl ?_
              refine TE_s rfl rfl rfl rfl rfl ?_
              refine TE_s rfl rfl rfl rfl rfl ?_
              refine TE_s rfl rfl rfl rfl rfl ?_
              refine TE_s rfl rfl rfl rfl rfl ?_
              refine TE_q rfl rfl (RD.pickF rfl rfl) rfl ?_
              refine TE_q rfl rfl (RD.assign rfl) rfl ?_
              refine TE_nil ?_
              exact pn_give () trivial ⟨congrArg (fun b => some (Value.bool b)) (by first | (simp [hf34, hf35]; done) | (simp only [decide_eq_true hf34, decide_eq_false hf35]; rfl) | (simp only [decide_eq_true hf34, decide_eq_false hf35]; simp; done)), trivial⟩ (fun _ hw => hw.sp (fun a => by simp -failIfUnchanged <;> omega))
          · refine TE_s rfl rfl rfl rfl rfl ?_
            refine TE_s rfl rfl rfl rfl rfl ?_
            refine TE_q rfl rfl (RD.pickF rfl rfl) rfl ?_
            refine TE_q rfl rfl (RD.move rfl) rfl ?_
            refine TE_s rfl rfl rfl rfl rfl ?_
            refine TE_s rfl rfl rfl rfl rfl ?_
            refine TE_s rfl rfl rfl rfl rfl ?_
            refine TE_s rfl rfl rfl rfl rfl ?_
            refine TE_s rfl rfl rfl rfl rfl ?_
            refine TE_s rfl rfl rfl rfl rfl ?_
            refine TE_s rfl rfl rfl rfl rfl ?_
            refine TE_q rfl rfl (RD.pickF rfl rfl) rfl ?_
            refine TE_q rfl rfl (RD.move rfl) rfl ?_
            refine TE_s rfl rfl rfl rfl rfl ?_
            refine TE_s rfl rfl rfl rfl rfl ?_
            refine TE_s rfl rfl rfl rfl rfl ?_
            refine TE_su rfl rfl rfl rfl ?_
            refine TE_su rfl rfl rfl rfl ?_
            refine TE_su rfl rfl rfl rfl ?_
            refine TE_su rfl rfl rfl rfl ?_
            refine TE_su rfl rfl rfl rfl ?_
            refine TE_su rfl rfl rfl rfl ?_
            refine TE_su rfl rfl rfl rfl ?_
            refine TE_su rfl rfl rfl rfl ?_
            refine TE_su rfl rfl rfl rfl ?_
            refine TE_su rfl rfl rfl rfl ?_
            refine TE_s rfl rfl rfl rfl rfl ?_
            refine TE_q rfl rfl (RD.pickF rfl rfl) rfl ?_
            refine TE_q rfl rfl (RD.move rfl) rfl ?_
            refine TE_s rfl rfl rfl rfl rfl ?_
            refine TE_s rfl rfl rfl rfl rfl ?_
            refine TE_s rfl rfl rfl rfl rfl ?_
            refine TE_s rfl rfl rfl rfl rfl ?_
            refine TE_s rfl rfl rfl rfl rfl ?_
            refine TE_q rfl rfl (RD.pickF rfl rfl) rfl ?_
            refine TE_q rfl rfl (RD.assign rfl) rfl ?_
            refine TE_nil ?_
            exact pn_give () trivial ⟨congrArg (fun b => some (Value.bool b)) (by first | (simp [hf34]; done) | (simp only [decide_eq_false hf34]; rfl) | (simp only [decide_eq_false hf34]; simp; done)), trivial⟩ (fun _ hw => hw.sp (fun a => by simp -failIfUnchanged <;> omega))
        rintro _ -
        refine pn_ret ?_
        exact pn_doneS [] rfl rfl ⟨(congrArg Value.bool (un_fin hok10 hok19 hkx hky)), rfl⟩ (fun _ => Nat.zero_le _) (fun _ he => nomatch he)
      · refine TE_q rfl rfl (RD.move rfl) rfl ?_
        refine TE_q rfl rfl (RD.extract rfl rfl) rfl ?_
        refine TE_q rfl rfl (RD.extract rfl rfl) rfl ?_
        refine TE_q rfl rfl (RD.assign rfl) rfl ?_
        refine TE_q rfl rfl (RD.assign rfl) rfl ?_
        refine TE_nil0 ?_
        refine pn_seq ?_
        refine pn_seq ?_
        refine pn_plain [] rfl ?_
        refine TE_q rfl rfl (RD.move rfl) rfl ?_
        refine TE_q rfl rfl (RD.as (v := .bool false) (RD.neq rfl rfl) rfl) rfl ?_
        refine TE_q rfl rfl (RD.move rfl) rfl ?_
        refine TE_gq rfl rfl rfl rfl (RD.move rfl) rfl ?_
        refine TE_gq rfl rfl rfl rfl (RD.as (v := .bool true) (RD.neq rfl rfl) rfl) rfl ?_
        refine TE_q rfl rfl (RD.pickF rfl rfl) rfl ?_
        refine TE_nil0 ?_
        refine pn_condT rfl ?_
        refine pn_seq ?_
        refine pn_plainG [6, 15] ((0, .cells (wfV 8 (s8f shaB)).cells 107 (0, 0)) :: (1, .cells (wfV 64 (gtf shaK)).cells 217 (0, 0)) :: (bldMx 5 (byteC) (obB x) st11)) rfl (fun a => by simp -failIfUnchanged <;> omega) ?_
        refine TE_q rfl rfl (RD.move rfl) rfl ?_
        refine TE_q rfl rfl (RD.move rfl) rfl ?_
        refine TE_gq rfl rfl rfl rfl (RD.move rfl) rfl ?_
        refine TE_gq rfl rfl rfl rfl (RD.as (v := .bool true) (RD.eql rfl rfl) rfl) rfl ?_
        refine TE_gq rfl rfl rfl rfl (RD.move rfl) rfl ?_
        refine TE_s rfl rfl rfl rfl rfl ?_
        refine TE_s rfl rfl rfl rfl rfl ?_
        refine TE_s rfl rfl rfl rfl rfl ?_
        refine TE_gq rfl rfl rfl rfl (RD.pickT rfl rfl) rfl ?_
        refine TE_q rfl rfl (RD.pickT rfl rfl) rfl ?_
        refine TE_q rfl rfl (RD.move rfl) rfl ?_
        refine TE_gq rfl rfl rfl rfl (RD.move rfl) rfl ?_
        refine TE_gq rfl rfl rfl rfl (RD.as (v := .bool false) (RD.eql rfl rfl) rfl) rfl ?_
        refine TE_gq rfl rfl rfl rfl (RD.move rfl) rfl ?_
        refine TE_gq rfl rfl rfl rfl (RD.move rfl) rfl ?_
        refine TE_gq rfl rfl rfl rfl (RD.as (v := .int .i64 0) (RD.len_slice Tryz.runUnderlying32 rfl) rfl) rfl ?_
        refine TE_gq rfl rfl rfl rfl (RD.as (v := .bool true) (RD.eql rfl rfl) rfl) rfl ?_
        refine TE_gq rfl rfl rfl rfl (RD.pickF rfl rfl) rfl ?_
        refine TE_q rfl rfl (RD.pickT rfl rfl) rfl ?_
        refine TE_q rfl rfl (RD.assign rfl) rfl ?_
        refine TE_nil0 ?_
        refine pn_ret ?_
        exact pn_doneS [] rfl rfl ⟨rfl, rfl⟩ (fun _ => Nat.zero_le _) (fun _ he => nomatch he)
    · refine TE_q rfl rfl (RD.move rfl) rfl ?_
      refine TE_q rfl rfl (RD.extract rfl rfl) rfl ?_
      refine TE_q rfl rfl (RD.extract rfl rfl) rfl ?_
      refine TE_q rfl rfl (RD.assign rfl) rfl ?_
      refine TE_q rfl rfl (RD.assign rfl) rfl ?_
      refine TE_nil0 ?_
      refine pn_seq ?_
      refine pn_plain [] rfl ?_
      refine TE_l rfl rfl trivial rfl (RD.loadA (i := 0) Tryz.isAgg48 Tryz.sizeOf48 rfl rfl (Nat.le_of_ble_eq_true rfl) (obj_all _ _ _ _)) rfl ?_
      refine TE_callG _ ((0, .cells (wfV 8 (s8f shaB)).cells 107 (0, 0)) :: (1, .cells (wfV 64 (gtf shaK)).cells 217 (0, 0)) :: HX) rfl rfl trivial Tryz.call26 rfl rfl rfl (fun w hw => c_obEncode y yd ye yp ((0, .cells (wfV 8 (s8f shaB)).cells 107 (0, 0)) :: (1, .cells (wfV 64 (gtf shaK)).cells 217 (0, 0)) :: HX) w (hbyd.mono (fun _ hw => hw.sp (fun a => by simp -failIfUnchanged <;> omega))) (hbye.mono (fun _ hw => hw.sp (fun a => by simp -failIfUnchanged <;> omega))) (hbyp.mono (fun _ hw => hw.sp (fun a => by simp -failIfUnchanged <;> omega))) hky (hw.sp (fun a => by simp -failIfUnchanged <;> omega))) (fun a => by simp -failIfUnchanged <;> omega) ?_
      rintro v64 H65 (⟨hok58, st59, hbo60, rfl, rfl⟩ | ⟨hok63, rfl, rfl⟩) hX66
      · have hRD62 : Rdx 1 (byteC) (bldMx 5 (byteC) (obB y) st59) (bldVx (obB y) st59) (obB y) := hbo60.rdx (u := 5) byteC_len; refine TE_sp ((b3, .cells (objV y yd ye yp).cells 48 (0, 0)) :: (b2, .cells (objV x xd xe xp).cells 48 (0, 0)) :: (0, .cells (wfV 8 (s8f shaB)).cells 107 (0, 0)) :: (1, .cells (wfV 64 (gtf shaK)).cells 217 (0, 0)) :: ((bldMx 5 (byteC) (obB y) st59) ++ HX)) (fun a => by simp -failIfUnchanged <;> omega) ?_
        refine TE_q rfl rfl (RD.move rfl) rfl ?_
        refine TE_q rfl rfl (RD.extract rfl rfl) rfl ?_
        refine TE_q rfl rfl (RD.extract rfl rfl) rfl ?_
        refine TE_q rfl rfl (RD.assign rfl) rfl ?_
        refine TE_q rfl rfl (RD.assign rfl) rfl ?_
        refine TE_nil0 ?_
        refine pn_seq ?_
        refine pn_seq ?_
        refine pn_plain [] rfl ?_
        refine TE_q rfl rfl (RD.move rfl) rfl ?_
        refine TE_q rfl rfl (RD.as (v := .bool true) (RD.neq rfl rfl) rfl) rfl ?_
        refine TE_q rfl rfl (RD.move rfl) rfl ?_
        refine TE_s rfl rfl rfl rfl rfl ?_
        refine TE_s rfl rfl rfl rfl rfl ?_
        refine TE_q rfl rfl (RD.pickT rfl rfl) rfl ?_
        refine TE_nil0 ?_
        refine pn_condT rfl ?_
        refine pn_seq ?_
        refine pn_plainG [6, 15] ((0, .cells (wfV 8 (s8f shaB)).cells 107 (0, 0)) :: (1, .cells (wfV 64 (gtf shaK)).cells 217 (0, 0)) :: (bldMx 5 (byteC) (obB y) st59)) rfl (fun a => by simp -failIfUnchanged <;> omega) ?_
        refine TE_q rfl rfl (RD.move rfl) rfl ?_
        refine TE_q rfl rfl (RD.move rfl) rfl ?_
        refine TE_gq rfl rfl rfl rfl (RD.move rfl) rfl ?_
        refine TE_gq rfl rfl rfl rfl (RD.as (v := .bool false) (RD.eql rfl rfl) rfl) rfl ?_
        refine TE_gq rfl rfl rfl rfl (RD.move rfl) rfl ?_
        refine TE_gq rfl rfl rfl rfl (RD.move rfl) rfl ?_
        refine TE_gq rfl rfl rfl rfl (RD.as (v := .int .i64 0) (RD.len_slice Tryz.runUnderlying32 rfl) rfl) rfl ?_
        refine TE_gq rfl rfl rfl rfl (RD.as (v := .bool true) (RD.eql rfl rfl) rfl) rfl ?_
        refine TE_gq rfl rfl rfl rfl (RD.pickF rfl rfl) rfl ?_
        refine TE_q rfl rfl (RD.pickT rfl rfl) rfl ?_
        refine TE_q rfl rfl (RD.move rfl) rfl ?_
        refine TE_gq rfl rfl rfl rfl (RD.move rfl) rfl ?_
        refine TE_gq rfl rfl rfl rfl (RD.as (v := .bool true) (RD.eql rfl rfl) rfl) rfl ?_
        refine TE_gq rfl rfl rfl rfl (RD.move rfl) rfl ?_
        refine TE_s rfl rfl rfl rfl rfl ?_
        refine TE_s rfl rfl rfl rfl rfl ?_
        refine TE_s rfl rfl rfl rfl rfl ?_
        refine TE_gq rfl rfl rfl rfl (RD.pickT rfl rfl) rfl ?_
        refine TE_q rfl rfl (RD.pickT rfl rfl) rfl ?_
        refine TE_q rfl rfl (RD.assign rfl) rfl ?_
        refine TE_nil0 ?_
        refine pn_ret ?_
        exact pn_doneS [] rfl rfl ⟨rfl, rfl⟩ (fun _ => Nat.zero_le _) (fun _ he => nomatch he)
      · refine TE_q rfl rfl (RD.move rfl) rfl ?_
        refine TE_q rfl rfl (RD.extract rfl rfl) rfl ?_
        refine TE_q rfl rfl (RD.extract rfl rfl) rfl ?_
        refine TE_q rfl rfl (RD.assign rfl) rfl ?_
        refine TE_q rfl rfl (RD.assign rfl) rfl ?_
        refine TE_nil0 ?_
        refine pn_seq ?_
        refine pn_seq ?_
        refine pn_plain [] rfl ?_
        refine TE_q rfl rfl (RD.move rfl) rfl ?_
        refine TE_q rfl rfl (RD.as (v := .bool true) (RD.neq rfl rfl) rfl) rfl ?_
        refine TE_q rfl rfl (RD.move rfl) rfl ?_
        refine TE_s rfl rfl rfl rfl rfl ?_
        refine TE_s rfl rfl rfl rfl rfl ?_
        refine TE_q rfl rfl (RD.pickT rfl rfl) rfl ?_
        refine TE_nil0 ?_
        refine pn_condT rfl ?_
        refine pn_seq ?_
        refine pn_plainG [6, 15] [(0, .cells (wfV 8 (s8f shaB)).cells 107 (0, 0)), (1, .cells (wfV 64 (gtf shaK)).cells 217 (0, 0))] rfl (fun a => by simp -failIfUnchanged <;> omega) ?_
        refine TE_q rfl rfl (RD.move rfl) rfl ?_
        refine TE_q rfl rfl (RD.move rfl) rfl ?_
        refine TE_gq rfl rfl rfl rfl (RD.move rfl) rfl ?_
        refine TE_gq rfl rfl rfl rfl (RD.as (v := .bool false) (RD.eql rfl rfl) rfl) rfl ?_
        refine TE_gq rfl rfl rfl rfl (RD.move rfl) rfl ?_
        refine TE_gq rfl rfl rfl rfl (RD.move rfl) rfl ?_
        refine TE_gq rfl rfl rfl rfl (RD.as (v := .int .i64 0) (RD.len_slice Tryz.runUnderlying32 rfl) rfl) rfl ?_
        refine TE_gq rfl rfl rfl rfl (RD.as (v := .bool true) (RD.eql rfl rfl) rfl) rfl ?_
        refine TE_gq rfl rfl rfl rfl (RD.pickF rfl rfl) rfl ?_
        refine TE_q rfl rfl (RD.pickT rfl rfl) rfl ?_
        refine TE_q rfl rfl (RD.move rfl) rfl ?_
        refine TE_gq rfl rfl rfl rfl (RD.move rfl) rfl ?_
        refine TE_gq rfl rfl rfl rfl (RD.as (v := .bool false) (RD.eql rfl rfl) rfl) rfl ?_
        refine TE_gq rfl rfl rfl rfl (RD.move rfl) rfl ?_
        refine TE_gq rfl rfl rfl rfl (RD.move rfl) rfl ?_
        refine TE_gq rfl rfl rfl rfl (RD.as (v := .int .i64 0) (RD.len_slice Tryz.runUnderlying32 rfl) rfl) rfl ?_
        refine TE_gq rfl rfl rfl rfl (RD.as (v := .bool true) (RD.eql rfl rfl) rfl) rfl ?_
        refine TE_gq rfl rfl rfl rfl (RD.pickF rfl rfl) rfl ?_
        refine TE_q rfl rfl (RD.pickT rfl rfl) rfl ?_
        refine TE_q rfl rfl (RD.assign rfl) rfl ?_
        refine TE_nil0 ?_
        refine pn_ret ?_
        exact pn_doneS [] rfl rfl ⟨rfl, rfl⟩ (fun _ => Nat.zero_le _) (fun _ he => nomatch he)

end Go.Proofs.YtloljpefdecmhaaGreatDoor
