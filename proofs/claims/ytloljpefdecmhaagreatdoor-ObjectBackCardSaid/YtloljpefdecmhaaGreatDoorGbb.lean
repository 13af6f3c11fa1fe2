import Derived.Test.YtloljpefdecmhaaGreatDoorGba
namespace Go.Proofs.YtloljpefdecmhaaGreatDoor
open Go Go.Mv
set_option maxRecDepth 8000
theorem c_obKind (bv : Value) (b : List UInt8) (HX : Mem) (w : World) (hbb : Rdb HX bv b) (hlb : b.length ≤ 1000000) (hH : Hp HX w) : Calls Tryz.prog 23 #[bv] w (Ret w [] fun v H1 => v = .int .i64 (kindM b) ∧ H1 = []) := by
  refine fn_enter (args := [_]) Tryz.func23 rfl Tryz.ntmps23 rfl hH ?_
  refine pn_seq ?_
  refine pn_plain [] rfl ?_
  refine TE_q rfl rfl (RD.assign rfl) rfl ?_
  refine TE_nil0 ?_
  refine pn_seq ?_
  refine pn_plain [] rfl ?_
  refine TE_q rfl rfl (RD.move rfl) rfl ?_
  refine TE_callG _ HX rfl rfl trivial Tryz.call28 rfl rfl rfl (fun w hw => c_parse bv b HX w (hbb.mono (fun _ hw => hw.sp (fun a => by simp -failIfUnchanged <;> omega))) hlb (hw.sp (fun a => by simp -failIfUnchanged <;> omega))) (fun a => by simp -failIfUnchanged <;> omega) ?_
  rintro v14 H15 (⟨x1, st5, st8, st11, hpm2, hox3, hbo6, hbo9, hbo12, rfl, rfl⟩ | ⟨hpm2, rfl, rfl⟩) hX16
  · have hRD7 : Rdx 1 (byteC) (bldMx 5 (byteC) x1.data st5) (bldVx x1.data st5) x1.data := hbo6.rdx (u := 5) byteC_len; have hRD10 : Rdx 34 (entC) (bldMx 97 (entC) x1.ents st8) (bldVx x1.ents st8) x1.ents := hbo9.rdx (u := 97) entC_len; have hRD13 : Rdx 32 (idC) (bldMx 36 (idC) x1.pars st11) (bldVx x1.pars st11) x1.pars := hbo12.rdx (u := 36) idC_len; have hk1x1 := hox3.d; have hk2x1 := hox3.e; have hk3x1 := hox3.p; have hk4x1 := hox3.m; refine TE_sp ((bldMx 5 (byteC) x1.data st5) ++ ((bldMx 97 (entC) x1.ents st8) ++ ((bldMx 36 (idC) x1.pars st11) ++ HX))) (fun a => by simp -failIfUnchanged <;> omega) ?_
    refine TE_q rfl rfl (RD.move rfl) rfl ?_
    refine TE_q rfl rfl (RD.extract rfl rfl) rfl ?_
    refine TE_q rfl rfl (RD.extract rfl rfl) rfl ?_
    refine TE_allocC (objV (⟨0, [], [], (fun _ => 0), [], (⟨0, (fun _ => 0)⟩ : Lnk), ⟨#[]⟩⟩ : Ob) (.slice none 0 0) (.slice none 0 0) (.slice none 0 0)).cells rfl Tryz.zeroValue48 rfl trivial rfl fun b3 hb3 => ?_
    refine TE_putCW 0 (objV (⟨0, [], [], (fun _ => 0), [], (⟨0, (fun _ => 0)⟩ : Lnk), ⟨#[]⟩⟩ : Ob) (.slice none 0 0) (.slice none 0 0) (.slice none 0 0)).cells (objV x1 (bldVx x1.data st5) (bldVx x1.ents st8) (bldVx x1.pars st11)).cells ((b3, .cells (objV x1 (bldVx x1.data st5) (bldVx x1.ents st8) (bldVx x1.pars st11)).cells 48 (0, 0)) :: ((bldMx 5 (byteC) x1.data st5) ++ ((bldMx 97 (entC) x1.ents st8) ++ ((bldMx 36 (idC) x1.pars st11) ++ HX)))) rfl Tryz.sizeOf48 trivial rfl rfl rfl (objV_one _ _ _ _ (bvx_one _ _) (bvx_one _ _) (bvx_one _ _)) rfl rfl rfl rfl (.inl hb3) ?_
    refine TE_q rfl rfl (RD.assign rfl) rfl ?_
    refine TE_nil0 ?_
    refine pn_seq ?_
    refine pn_plainG [] ((b3, .cells (objV x1 (bldVx x1.data st5) (bldVx x1.ents st8) (bldVx x1.pars st11)).cells 48 (0, 0)) :: ((bldMx 5 (byteC) x1.data st5) ++ ((bldMx 97 (entC) x1.ents st8) ++ (bldMx 36 (idC) x1.pars st11)))) rfl (fun a => by simp -failIfUnchanged <;> omega) ?_
    refine TE_q rfl rfl (RD.fieldAddr (o := 0) Tryz.runUnderlying48 rfl rfl Tryz.sizeOf3 rfl) rfl ?_
    refine TE_l rfl rfl trivial rfl (RD.load (i := 0) (v := .int .i64 x1.k) Tryz.isAgg3 rfl rfl rfl) rfl ?_
    refine TE_q rfl rfl (RD.assign rfl) rfl ?_
    refine TE_nil0 ?_
    refine pn_ret ?_
    exact pn_doneS [] rfl rfl ⟨(congrArg (Value.int .i64) (kindM_some hpm2).symm), rfl⟩ (fun _ => Nat.zero_le _) (fun _ he => nomatch he)
  · refine TE_q rfl rfl (RD.move rfl) rfl ?_
    refine TE_q rfl rfl (RD.extract rfl rfl) rfl ?_
    refine TE_q rfl rfl (RD.extract rfl rfl) rfl ?_
    refine TE_allocC (objV (⟨0, [], [], (fun _ => 0), [], (⟨0, (fun _ => 0)⟩ : Lnk), ⟨#[]⟩⟩ : Ob) (.slice none 0 0) (.slice none 0 0) (.slice none 0 0)).cells rfl Tryz.zeroValue48 rfl trivial rfl fun b3 hb3 => ?_
    refine TE_putCW 0 (objV (⟨0, [], [], (fun _ => 0), [], (⟨0, (fun _ => 0)⟩ : Lnk), ⟨#[]⟩⟩ : Ob) (.slice none 0 0) (.slice none 0 0) (.slice none 0 0)).cells (objV (⟨0, [], [], (fun _ => 0), [], (⟨0, (fun _ => 0)⟩ : Lnk), ⟨#[]⟩⟩ : Ob) (.slice none 0 0) (.slice none 0 0) (.slice none 0 0)).cells ((b3, .cells (objV (⟨0, [], [], (fun _ => 0), [], (⟨0, (fun _ => 0)⟩ : Lnk), ⟨#[]⟩⟩ : Ob) (.slice none 0 0) (.slice none 0 0) (.slice none 0 0)).cells 48 (0, 0)) :: HX) rfl Tryz.sizeOf48 trivial rfl rfl rfl (objV_one _ _ _ _ rfl rfl rfl) rfl rfl rfl rfl (.inl hb3) ?_
    refine TE_q rfl rfl (RD.assign rfl) rfl ?_
    refine TE_nil0 ?_
    refine pn_seq ?_
    refine pn_plainG [] [(b3, .cells (objV (⟨0, [], [], (fun _ => 0), [], (⟨0, (fun _ => 0)⟩ : Lnk), ⟨#[]⟩⟩ : Ob) (.slice none 0 0) (.slice none 0 0) (.slice none 0 0)).cells 48 (0, 0))] rfl (fun a => by simp -failIfUnchanged <;> omega) ?_
    refine TE_q rfl rfl (RD.fieldAddr (o := 0) Tryz.runUnderlying48 rfl rfl Tryz.sizeOf3 rfl) rfl ?_
    refine TE_l rfl rfl trivial rfl (RD.load (i := 0) (v := .int .i64 0) Tryz.isAgg3 rfl rfl rfl) rfl ?_
    refine TE_q rfl rfl (RD.assign rfl) rfl ?_
    refine TE_nil0 ?_
    refine pn_ret ?_
    exact pn_doneS [] rfl rfl ⟨(congrArg (Value.int .i64) (kindM_none hpm2).symm), rfl⟩ (fun _ => Nat.zero_le _) (fun _ he => nomatch he)

theorem c_obID (x : Ob) (xd : Value) (xe : Value) (xp : Value) (HX : Mem) (w : World) (hbxd : Rdb ((0, .cells (wfV 8 (s8f shaB)).cells 107 (0, 0)) :: (1, .cells (wfV 64 (gtf shaK)).cells 217 (0, 0)) :: HX) xd x.data) (hbxe : Rdx 34 (entC) ((0, .cells (wfV 8 (s8f shaB)).cells 107 (0, 0)) :: (1, .cells (wfV 64 (gtf shaK)).cells 217 (0, 0)) :: HX) xe x.ents) (hbxp : Rdx 32 (idC) ((0, .cells (wfV 8 (s8f shaB)).cells 107 (0, 0)) :: (1, .cells (wfV 64 (gtf shaK)).cells 217 (0, 0)) :: HX) xp x.pars) (hox : ObOk x) (hH : Hp ((0, .cells (wfV 8 (s8f shaB)).cells 107 (0, 0)) :: (1, .cells (wfV 64 (gtf shaK)).cells 217 (0, 0)) :: HX) w) : Calls Tryz.prog 30 #[objV x xd xe xp] w (Ret w [] fun v H1 => v = .tuple #[idV (idO x), .int .i64 (err (obOkB x) 70)] ∧ H1 = []) := by
  have hw1 := hox.d; have hw2 := hox.e; have hw3 := hox.p; have hw4 := hox.m; have hwe := hox.en
  refine fn_enter (args := [_]) Tryz.func30 rfl Tryz.ntmps30 rfl hH ?_
  refine pn_seq ?_
  refine pn_plain [] rfl ?_
  refine TE_boxC (objV x xd xe xp).cells rfl rfl rfl trivial rfl fun b1 hb1 => ?_
  refine TE_allocC (idV (fun _ => 0)).cells rfl Tryz.zeroValue36 rfl trivial rfl fun b2 hb2 => ?_
  refine TE_q rfl rfl (RD.assign rfl) rfl ?_
  refine TE_nil0 ?_
  refine pn_seq ?_
  refine pn_plain [] rfl ?_
  refine TE_l rfl rfl trivial rfl (RD.loadA (i := 1) Tryz.isAgg48 Tryz.sizeOf48 rfl rfl (Nat.le_of_ble_eq_true rfl) (obj_all _ _ _ _)) rfl ?_
  refine TE_callG _ ((0, .cells (wfV 8 (s8f shaB)).cells 107 (0, 0)) :: (1, .cells (wfV 64 (gtf shaK)).cells 217 (0, 0)) :: HX) rfl rfl trivial Tryz.call26 rfl rfl rfl (fun w hw => c_obEncode x xd xe xp ((0, .cells (wfV 8 (s8f shaB)).cells 107 (0, 0)) :: (1, .cells (wfV 64 (gtf shaK)).cells 217 (0, 0)) :: HX) w (hbxd.mono (fun _ hw => hw.sp (fun a => by simp -failIfUnchanged <;> omega))) (hbxe.mono (fun _ hw => hw.sp (fun a => by simp -failIfUnchanged <;> omega))) (hbxp.mono (fun _ hw => hw.sp (fun a => by simp -failIfUnchanged <;> omega))) hox (hw.sp (fun a => by simp -failIfUnchanged <;> omega))) (fun a => by simp -failIfUnchanged <;> omega) ?_
  rintro v7 H8 (⟨hok1, st2, hbo3, rfl, rfl⟩ | ⟨hok6, rfl, rfl⟩) hX9
  · have hRD5 : Rdx 1 (byteC) (bldMx 5 (byteC) (obB x) st2) (bldVx (obB x) st2) (obB x) := hbo3.rdx (u := 5) byteC_len; refine TE_sp ((b2, .cells (idV (fun _ => 0)).cells 36 (0, 0)) :: (b1, .cells (objV x xd xe xp).cells 48 (0, 0)) :: (0, .cells (wfV 8 (s8f shaB)).cells 107 (0, 0)) :: (1, .cells (wfV 64 (gtf shaK)).cells 217 (0, 0)) :: ((bldMx 5 (byteC) (obB x) st2) ++ HX)) (fun a => by simp -failIfUnchanged <;> omega) ?_
    refine TE_q rfl rfl (RD.move rfl) rfl ?_
    refine TE_q rfl rfl (RD.extract rfl rfl) rfl ?_
    refine TE_q rfl rfl (RD.extract rfl rfl) rfl ?_
    refine TE_q rfl rfl (RD.assign rfl) rfl ?_
    refine TE_q rfl rfl (RD.assign rfl) rfl ?_
    refine TE_nil0 ?_
    refine pn_seq ?_
    refine pn_seq ?_
    refine pn_plainG [] ((b2, .cells (idV (fun _ => 0)).cells 36 (0, 0)) :: (0, .cells (wfV 8 (s8f shaB)).cells 107 (0, 0)) :: (1, .cells (wfV 64 (gtf shaK)).cells 217 (0, 0)) :: (bldMx 5 (byteC) (obB x) st2)) rfl (fun a => by simp -failIfUnchanged <;> omega) ?_
    refine TE_q rfl rfl (RD.move rfl) rfl ?_
    refine TE_q rfl rfl (RD.as (v := .bool false) (RD.neq rfl rfl) rfl) rfl ?_
    refine TE_nil0 ?_
    refine pn_condF rfl ?_
    refine pn_skip ?_
    refine pn_seq ?_
    refine pn_plain [] rfl ?_
    refine TE_q rfl rfl (RD.move rfl) rfl ?_
    refine TE_buildSlice (cells := #[bldVx (obB x) st2]) rfl Tryz.runUnderlying30 Tryz.sizeOf32 Tryz.zeroValue32 rfl rfl rfl (by obtain ⟨a0, c0, e0⟩ := (hRD5).shape; rw [e0]; kernel_rfl) trivial rfl fun b16 hb16 => ?_
    refine TE_callG _ ((b16, .cells #[bldVx (obB x) st2] 32 (0, 0)) :: (0, .cells (wfV 8 (s8f shaB)).cells 107 (0, 0)) :: (1, .cells (wfV 64 (gtf shaK)).cells 217 (0, 0)) :: (bldMx 5 (byteC) (obB x) st2)) rfl rfl trivial Tryz.call19 rfl rfl rfl (fun w hw => c_hashOf b16 (bldVx (obB x) st2) (obB x) (bldMx 5 (byteC) (obB x) st2) w ((Rdb.of_x hRD5).mono (fun _ hw => hw.sp (fun a => by simp -failIfUnchanged <;> omega))) (by have h9 := obB_4000 hok1; omega) (hw.sp (fun a => by simp -failIfUnchanged <;> omega))) (fun a => by simp -failIfUnchanged <;> omega) ?_
    rintro v10 H11 ⟨rfl, rfl⟩ -
    refine TE_putCW 1 (idV (fun _ => 0)).cells (idV (shaF (obB x))).cells ((b16, .cells #[bldVx (obB x) st2] 32 (0, 0)) :: (b2, .cells (idV (shaF (obB x))).cells 36 (0, 0)) :: (0, .cells (wfV 8 (s8f shaB)).cells 107 (0, 0)) :: (1, .cells (wfV 64 (gtf shaK)).cells 217 (0, 0)) :: (bldMx 5 (byteC) (obB x) st2)) rfl Tryz.sizeOf36 trivial rfl rfl rfl rfl rfl rfl rfl rfl (.inl hb2) ?_
    refine TE_q rfl rfl (RD.assign rfl) rfl ?_
    refine TE_nil0 ?_
    refine pn_ret ?_
    exact pn_doneF rfl ⟨idV (shaF (obB x)), _, b2, 0, rfl, rfl, load_agg (i := 1) Tryz.isAgg36 Tryz.sizeOf36 rfl (Nat.le_of_ble_eq_true rfl) (id_all _), ⟨_, _, rfl, rfl, rfl⟩⟩ ⟨(by rw [idO, hok1]; rfl), rfl⟩ (fun _ h => h.sp (fun _ => Nat.zero_le _)) (fun _ he => nomatch he)
  · refine TE_q rfl rfl (RD.move rfl) rfl ?_
    refine TE_q rfl rfl (RD.extract rfl rfl) rfl ?_
    refine TE_q rfl rfl (RD.extract rfl rfl) rfl ?_
    refine TE_q rfl rfl (RD.assign rfl) rfl ?_
    refine TE_q rfl rfl (RD.assign rfl) rfl ?_
    refine TE_nil0 ?_
    refine pn_seq ?_
    refine pn_seq ?_
    refine pn_plainG [] [(b2, .cells (idV (fun _ => 0)).cells 36 (0, 0)), (0, .cells (wfV 8 (s8f shaB)).cells 107 (0, 0)), (1, .cells (wfV 64 (gtf shaK)).cells 217 (0, 0))] rfl (fun a => by simp -failIfUnchanged <;> omega) ?_
    refine TE_q rfl rfl (RD.move rfl) rfl ?_
    refine TE_q rfl rfl (RD.as (v := .bool true) (RD.neq rfl rfl) rfl) rfl ?_
    refine TE_nil0 ?_
    refine pn_condT rfl ?_
    refine pn_seq ?_
    refine pn_plain [] rfl ?_
    refine TE_q rfl rfl (RD.build (v := idV (fun _ => 0)) rfl (bd_id0)) rfl ?_
    refine TE_q rfl rfl (RD.move rfl) rfl ?_
    refine TE_putCW 0 (idV (fun _ => 0)).cells (idV (fun _ => 0)).cells [(b2, .cells (idV (fun _ => 0)).cells 36 (0, 0)), (0, .cells (wfV 8 (s8f shaB)).cells 107 (0, 0)), (1, .cells (wfV 64 (gtf shaK)).cells 217 (0, 0))] rfl Tryz.sizeOf36 trivial rfl rfl rfl rfl rfl rfl rfl rfl (.inl hb2) ?_
    refine TE_q rfl rfl (RD.assign rfl) rfl ?_
    refine TE_nil0 ?_
    refine pn_ret ?_
    exact pn_doneF rfl ⟨idV (fun _ => 0), _, b2, 0, rfl, rfl, load_agg (i := 0) Tryz.isAgg36 Tryz.sizeOf36 rfl (Nat.le_of_ble_eq_true rfl) (id_all _), ⟨_, _, rfl, rfl, rfl⟩⟩ ⟨(by rw [idO, hok6]; rfl), rfl⟩ (fun _ h => h.sp (fun _ => Nat.zero_le _)) (fun _ he => nomatch he)

end Go.Proofs.YtloljpefdecmhaaGreatDoor
