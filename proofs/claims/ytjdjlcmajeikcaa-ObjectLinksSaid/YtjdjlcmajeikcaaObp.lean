import Derived.Test.YtjdjlcmajeikcaaObn
namespace Go.Proofs.Ytjdjlcmajeikcaa
open Go Go.Mv
set_option maxRecDepth 8000
theorem c_cloneE (H : Mem) (xv : Value) (ys : List Ent) (w : World) (hH : Hp H w) (hb : Rdx 34 entC H xv ys) (hlen : ys.length ≤ 1000000) : Calls Try.prog 23 #[xv] w (Ret w [] fun v H1 => ∃ st, BldOk 34 entC ys st ∧ v = bldVx ys st ∧ H1 = bldMx 38 entC ys st) := by
  rcases hb with ⟨rfl, rfl⟩ | ⟨b, off, cap, rfl, hcap, hcell⟩
  · refine fn_enter (args := [_]) Try.func23 rfl Try.ntmps23 rfl hH ?_
    refine pn_seq ?_
    refine pn_plain [] rfl ?_
    refine TE_q rfl rfl (RD.assign rfl) rfl ?_
    refine TE_nil0 ?_
    refine pn_seq ?_
    refine pn_seq ?_
    refine pn_plain [] rfl ?_
    refine TE_q rfl rfl (RD.move rfl) rfl ?_
    refine TE_q rfl rfl (RD.sl_eql_nil Try.runUnderlying23 rfl rfl) rfl ?_
    refine TE_nil0 ?_
    refine pn_condT rfl ?_
    refine pn_seq ?_
    refine pn_plain [] rfl ?_
    refine TE_q rfl rfl (RD.assign rfl) rfl ?_
    refine TE_nil0 ?_
    refine pn_ret ?_
    exact pn_done (H1 := []) rfl rfl ⟨none, rfl, rfl, rfl⟩ (List.nil_sublist _) (by simp)
  · have hb : Rdx 34 entC H (.slice (some ⟨b, off, none⟩) ys.length cap) ys := .inr ⟨b, off, cap, rfl, hcap, hcell⟩
    refine fn_enter (args := [_]) Try.func23 rfl Try.ntmps23 rfl hH ?_
    refine pn_seq ?_
    refine pn_plain [] rfl ?_
    refine TE_q rfl rfl (RD.assign rfl) rfl ?_
    refine TE_nil0 ?_
    refine pn_seq ?_
    refine pn_seq ?_
    refine pn_plain [] rfl ?_
    refine TE_q rfl rfl (RD.move rfl) rfl ?_
    refine TE_q rfl rfl (RD.sl_eql_nil Try.runUnderlying23 rfl rfl) rfl ?_
    refine TE_nil0 ?_
    refine pn_condF rfl ?_
    refine pn_skip ?_
    refine pn_seq ?_
    refine pn_plain [] rfl ?_
    refine TE_buildSlice0 rfl Try.runUnderlying23 Try.sizeOf38 trivial rfl fun b5 hb5 => ?_
    refine TE_q rfl rfl (RD.move rfl) rfl ?_
    refine TE_appendX (st := some (b5, 0, [])) (l := []) H entC_len entC_one rfl rfl rfl rfl trivial rfl Try.underlying23 el_ent rfl rfl rfl ⟨Nat.le_refl _, by decide, rfl⟩ hb (fun _ hw => hw.sp (fun a => by simp -failIfUnchanged <;> omega)) (by simp; omega) rfl (bldx_all (fun k => w.heap.size ≤ k ∨ k ∈ []) (by rintro b cap tl ⟨⟩; exact .inl hb5)) ?_
    intro st hok hX _
    refine TE_q rfl rfl (RD.assign rfl) rfl ?_
    refine TE_nil0 ?_
    refine pn_ret ?_
    exact pn_done rfl rfl ⟨st, hok, rfl, rfl⟩ (List.sublist_append_left _ _) (fun e he => (hX e he).symm)

theorem c_cloneB (H : Mem) (xv : Value) (ys : List UInt8) (w : World) (hH : Hp H w) (hb : Rdx 1 byteC H xv ys) (hlen : ys.length ≤ 1000000) : Calls Try.prog 22 #[xv] w (Ret w [] fun v H1 => ∃ st, BldOk 1 byteC ys st ∧ v = bldVx ys st ∧ H1 = bldMx 5 byteC ys st) := by
  rcases hb with ⟨rfl, rfl⟩ | ⟨b, off, cap, rfl, hcap, hcell⟩
  · refine fn_enter (args := [_]) Try.func22 rfl Try.ntmps22 rfl hH ?_
    refine pn_seq ?_
    refine pn_plain [] rfl ?_
    refine TE_q rfl rfl (RD.assign rfl) rfl ?_
    refine TE_nil0 ?_
    refine pn_seq ?_
    refine pn_seq ?_
    refine pn_plain [] rfl ?_
    refine TE_q rfl rfl (RD.move rfl) rfl ?_
    refine TE_q rfl rfl (RD.sl_eql_nil Try.runUnderlying22 rfl rfl) rfl ?_
    refine TE_nil0 ?_
    refine pn_condT rfl ?_
    refine pn_seq ?_
    refine pn_plain [] rfl ?_
    refine TE_q rfl rfl (RD.assign rfl) rfl ?_
    refine TE_nil0 ?_
    refine pn_ret ?_
    exact pn_done (H1 := []) rfl rfl ⟨none, rfl, rfl, rfl⟩ (List.nil_sublist _) (by simp)
  · have hb : Rdx 1 byteC H (.slice (some ⟨b, off, none⟩) ys.length cap) ys := .inr ⟨b, off, cap, rfl, hcap, hcell⟩
    refine fn_enter (args := [_]) Try.func22 rfl Try.ntmps22 rfl hH ?_
    refine pn_seq ?_
    refine pn_plain [] rfl ?_
    refine TE_q rfl rfl (RD.assign rfl) rfl ?_
    refine TE_nil0 ?_
    refine pn_seq ?_
    refine pn_seq ?_
    refine pn_plain [] rfl ?_
    refine TE_q rfl rfl (RD.move rfl) rfl ?_
    refine TE_q rfl rfl (RD.sl_eql_nil Try.runUnderlying22 rfl rfl) rfl ?_
    refine TE_nil0 ?_
    refine pn_condF rfl ?_
    refine pn_skip ?_
    refine pn_seq ?_
    refine pn_plain [] rfl ?_
    refine TE_buildSlice0 rfl Try.runUnderlying22 Try.sizeOf5 trivial rfl fun b5 hb5 => ?_
    refine TE_q rfl rfl (RD.move rfl) rfl ?_
    refine TE_appendX (st := some (b5, 0, [])) (l := []) H byteC_len byteC_one rfl rfl rfl rfl trivial rfl Try.underlying22 elByteR rfl rfl rfl ⟨Nat.le_refl _, by decide, rfl⟩ hb (fun _ hw => hw.sp (fun a => by simp -failIfUnchanged <;> omega)) (by simp; omega) rfl (bldx_all (fun k => w.heap.size ≤ k ∨ k ∈ []) (by rintro b cap tl ⟨⟩; exact .inl hb5)) ?_
    intro st hok hX _
    refine TE_q rfl rfl (RD.assign rfl) rfl ?_
    refine TE_nil0 ?_
    refine pn_ret ?_
    exact pn_done rfl rfl ⟨st, hok, rfl, rfl⟩ (List.sublist_append_left _ _) (fun e he => (hX e he).symm)

theorem c_obCopy (x : Ob) (xd : Value) (xe : Value) (xp : Value) (HX : Mem) (w : World) (hbxd : Rdb HX xd x.data) (hbxe : Rdx 34 (entC) HX xe x.ents) (hbxp : Rdx 32 (idC) HX xp x.pars) (hox : ObOk x) (hH : Hp HX w) : Calls Try.prog 12 #[objV x xd xe xp] w (Ret w [] fun v H1 => ∃ s1 s2 s3, BldOk 1 (byteC) x.data s1 ∧ BldOk 34 (entC) x.ents s2 ∧ BldOk 32 (idC) x.pars s3 ∧ v = objV x (bldVx x.data s1) (bldVx x.ents s2) (bldVx x.pars s3) ∧ H1 = (bldMx 5 (byteC) x.data s1 ++ (bldMx 38 (entC) x.ents s2 ++ bldMx 25 (idC) x.pars s3))) := by
  have hw1 := hox.d; have hw2 := hox.e; have hw3 := hox.p; have hw4 := hox.m; have hwe := hox.en
  refine fn_enter (args := [_]) Try.func12 rfl Try.ntmps12 rfl hH ?_
  refine pn_seq ?_
  refine pn_plain [] rfl ?_
  refine TE_boxC (objV x xd xe xp).cells rfl rfl rfl trivial rfl fun b1 hb1 => ?_
  refine TE_allocC (objV (⟨0, [], [], (fun _ => 0), [], (⟨0, (fun _ => 0)⟩ : Lnk), ⟨#[]⟩⟩ : Ob) (.slice none 0 0) (.slice none 0 0) (.slice none 0 0)).cells rfl Try.zeroValue30 rfl trivial rfl fun b2 hb2 => ?_
  refine TE_nil0 ?_
  refine pn_seq ?_
  refine pn_drawLG [] [(b1, .cells (objV x xd xe xp).cells 30 (0, 0))] ((b2, .cells (objV (⟨0, [], [], (fun _ => 0), [], (⟨0, (fun _ => 0)⟩ : Lnk), ⟨#[]⟩⟩ : Ob) (.slice none 0 0) (.slice none 0 0) (.slice none 0 0)).cells 30 (0, 0)) :: HX) ((.op 0 (.op 3 (.op 6 (.fork (.op 1 (.fork (.op 2 (.fork (.op 4 (.fork (.op 5 (.op 7 (.op 9 (.op 8 (.op 10 (.op 11 (.op 12 (.op 13 (.op 14 .nil))))))))) (.op 7 (.op 9 (.op 5 (.op 8 (.op 10 (.op 11 (.op 12 (.op 13 (.op 14 .nil))))))))))) (.op 7 (.op 4 (.op 9 (.op 5 (.op 8 (.op 10 (.op 11 (.op 12 (.op 13 (.op 14 .nil)))))))))))) (.fork (.op 4 (.fork (.op 2 (.fork (.op 5 (.op 7 (.op 9 (.op 8 (.op 10 (.op 11 (.op 12 (.op 13 (.op 14 .nil))))))))) (.op 7 (.op 9 (.op 5 (.op 8 (.op 10 (.op 11 (.op 12 (.op 13 (.op 14 .nil))))))))))) (.op 7 (.op 2 (.op 9 (.op 5 (.op 8 (.op 10 (.op 11 (.op 12 (.op 13 (.op 14 .nil)))))))))))) (.op 7 (.fork (.op 2 (.op 4 (.op 9 (.op 5 (.op 8 (.op 10 (.op 11 (.op 12 (.op 13 (.op 14 .nil)))))))))) (.op 4 (.op 2 (.op 9 (.op 5 (.op 8 (.op 10 (.op 11 (.op 12 (.op 13 (.op 14 .nil))))))))))))))) (.fork (.op 4 (.fork (.op 1 (.fork (.op 2 (.fork (.op 5 (.op 7 (.op 9 (.op 8 (.op 10 (.op 11 (.op 12 (.op 13 (.op 14 .nil))))))))) (.op 7 (.op 9 (.op 5 (.op 8 (.op 10 (.op 11 (.op 12 (.op 13 (.op 14 .nil))))))))))) (.op 7 (.op 2 (.op 9 (.op 5 (.op 8 (.op 10 (.op 11 (.op 12 (.op 13 (.op 14 .nil)))))))))))) (.op 7 (.op 1 (.op 2 (.op 9 (.op 5 (.op 8 (.op 10 (.op 11 (.op 12 (.op 13 (.op 14 .nil))))))))))))) (.op 7 (.fork (.op 1 (.fork (.op 2 (.op 4 (.op 9 (.op 5 (.op 8 (.op 10 (.op 11 (.op 12 (.op 13 (.op 14 .nil)))))))))) (.op 4 (.op 2 (.op 9 (.op 5 (.op 8 (.op 10 (.op 11 (.op 12 (.op 13 (.op 14 .nil)))))))))))) (.op 4 (.op 1 (.op 2 (.op 9 (.op 5 (.op 8 (.op 10 (.op 11 (.op 12 (.op 13 (.op 14 .nil))))))))))))))))))) rfl (by kernel_rfl) (by kernel_rfl) (fun a => by simp -failIfUnchanged <;> omega) ?_
  refine TE_q rfl rfl (RD.fieldAddr (o := 1) Try.runUnderlying30 rfl rfl Try.sizeOf22 rfl) rfl ?_
  refine TE_q rfl rfl (RD.fieldAddr (o := 2) Try.runUnderlying30 rfl rfl Try.sizeOf23 rfl) rfl ?_
  refine TE_q rfl rfl (RD.fieldAddr (o := 35) Try.runUnderlying30 rfl rfl Try.sizeOf26 rfl) rfl ?_
  refine TE_fork ?_ ?_
  · refine TE_l rfl rfl trivial rfl (RD.load (i := 0) (v := xd) Try.isAgg22 rfl rfl rfl) rfl ?_
    refine TE_fork ?_ ?_
    · refine TE_callG _ HX rfl rfl trivial Try.call22 rfl rfl rfl (fun w hw => c_cloneB HX xd x.data w (hw.sp (fun a => by simp -failIfUnchanged <;> omega)) ((Rdx.of_b hbxd).mono (fun _ hw => hw.sp (fun a => by simp -failIfUnchanged <;> omega))) (by first | assumption | omega | (simp; omega))) (fun a => by simp -failIfUnchanged <;> omega) ?_
      rintro v5 H6 ⟨st1, hbo2, rfl, rfl⟩ hX3
      have hRD4 : Rdx 1 (byteC) (bldMx 5 (byteC) x.data st1) (bldVx x.data st1) x.data := hbo2.rdx (u := 5) byteC_len
      refine TE_sp ((b1, .cells (objV x xd xe xp).cells 30 (0, 0)) :: (bldMx 5 (byteC) x.data st1)) (fun a => by simp -failIfUnchanged <;> omega) ?_
      refine TE_fork ?_ ?_
      · refine TE_l rfl rfl trivial rfl (RD.load (i := 0) (v := xe) Try.isAgg23 rfl rfl rfl) rfl ?_
        refine TE_fork ?_ ?_
        · refine TE_callG _ HX rfl rfl trivial Try.call23 rfl rfl rfl (fun w hw => c_cloneE HX xe x.ents w (hw.sp (fun a => by simp -failIfUnchanged <;> omega)) (hbxe.mono (fun _ hw => hw.sp (fun a => by simp -failIfUnchanged <;> omega))) (by first | assumption | omega | (simp; omega))) (fun a => by simp -failIfUnchanged <;> omega) ?_
          rintro v11 H12 ⟨st7, hbo8, rfl, rfl⟩ hX9
          have hRD10 : Rdx 34 (entC) (bldMx 38 (entC) x.ents st7) (bldVx x.ents st7) x.ents := hbo8.rdx (u := 38) entC_len
          refine TE_sp ((b1, .cells (objV x xd xe xp).cells 30 (0, 0)) :: ((bldMx 38 (entC) x.ents st7) ++ (bldMx 5 (byteC) x.data st1))) (fun a => by simp -failIfUnchanged <;> omega) ?_
          refine TE_l rfl rfl trivial rfl (RD.load (i := 0) (v := xp) Try.isAgg26 rfl rfl rfl) rfl ?_
          refine TE_q rfl rfl (RD.fieldAddr (o := 1) Try.runUnderlying30 rfl rfl Try.sizeOf22 rfl) rfl ?_
          refine TE_callG _ HX rfl rfl trivial Try.call24 rfl rfl rfl (fun w hw => c_cloneI HX xp x.pars w (hw.sp (fun a => by simp -failIfUnchanged <;> omega)) (hbxp.mono (fun _ hw => hw.sp (fun a => by simp -failIfUnchanged <;> omega))) (by first | assumption | omega | (simp; omega))) (fun a => by simp -failIfUnchanged <;> omega) ?_
          rintro v17 H18 ⟨st13, hbo14, rfl, rfl⟩ hX15
          have hRD16 : Rdx 32 (idC) (bldMx 25 (idC) x.pars st13) (bldVx x.pars st13) x.pars := hbo14.rdx (u := 25) idC_len
          refine TE_sp ((b1, .cells (objV x xd xe xp).cells 30 (0, 0)) :: ((bldMx 25 (idC) x.pars st13) ++ ((bldMx 38 (entC) x.ents st7) ++ (bldMx 5 (byteC) x.data st1)))) (fun a => by simp -failIfUnchanged <;> omega) ?_
          refine TE_storeC 0 (objV x xd xe xp).cells (objV x (bldVx x.data st1) xe xp).cells ((b1, .cells (objV x (bldVx x.data st1) xe xp).cells 30 (0, 0)) :: ((bldMx 25 (idC) x.pars st13) ++ ((bldMx 38 (entC) x.ents st7) ++ (bldMx 5 (byteC) x.data st1)))) rfl Try.sizeOf22 trivial rfl rfl (bvx_cells _ _) (bvx_one _ _) rfl rfl (put_obj_data _ _ _ _ _ _) rfl (.inl hb1) ?_
          refine TE_q rfl rfl (RD.fieldAddr (o := 2) Try.runUnderlying30 rfl rfl Try.sizeOf23 rfl) rfl ?_
          refine TE_storeC 0 (objV x (bldVx x.data st1) xe xp).cells (objV x (bldVx x.data st1) (bldVx x.ents st7) xp).cells ((b1, .cells (objV x (bldVx x.data st1) (bldVx x.ents st7) xp).cells 30 (0, 0)) :: ((bldMx 25 (idC) x.pars st13) ++ ((bldMx 38 (entC) x.ents st7) ++ (bldMx 5 (byteC) x.data st1)))) rfl Try.sizeOf23 trivial rfl rfl (bvx_cells _ _) (bvx_one _ _) rfl rfl (put_obj_ents _ _ _ _ _ _) rfl (.inl hb1) ?_
          refine TE_q rfl rfl (RD.fieldAddr (o := 35) Try.runUnderlying30 rfl rfl Try.sizeOf26 rfl) rfl ?_
          refine TE_storeC 0 (objV x (bldVx x.data st1) (bldVx x.ents st7) xp).cells (objV x (bldVx x.data st1) (bldVx x.ents st7) (bldVx x.pars st13)).cells ((b1, .cells (objV x (bldVx x.data st1) (bldVx x.ents st7) (bldVx x.pars st13)).cells 30 (0, 0)) :: ((bldMx 25 (idC) x.pars st13) ++ ((bldMx 38 (entC) x.ents st7) ++ (bldMx 5 (byteC) x.data st1)))) rfl Try.sizeOf26 trivial rfl rfl (bvx_cells _ _) (bvx_one _ _) rfl rfl (put_obj_pars _ _ _ _ _ _) rfl (.inl hb1) ?_
          refine TE_nil ?_
          refine pn_seq ?_
          refine pn_plainG [] ((b1, .cells (objV x (bldVx x.data st1) (bldVx x.ents st7) (bldVx x.pars st13)).cells 30 (0, 0)) :: (b2, .cells (objV (⟨0, [], [], (fun _ => 0), [], (⟨0, (fun _ => 0)⟩ : Lnk), ⟨#[]⟩⟩ : Ob) (.slice none 0 0) (.slice none 0 0) (.slice none 0 0)).cells 30 (0, 0)) :: ((bldMx 25 (idC) x.pars st13) ++ ((bldMx 38 (entC) x.ents st7) ++ (bldMx 5 (byteC) x.data st1)))) rfl (fun a => by simp -failIfUnchanged <;> omega) ?_
          refine TE_l rfl rfl trivial rfl (RD.loadA (i := 0) Try.isAgg30 Try.sizeOf30 rfl rfl (Nat.le_of_ble_eq_true rfl) (obj_all _ _ _ _)) rfl ?_
          refine TE_putCW 1 (objV (⟨0, [], [], (fun _ => 0), [], (⟨0, (fun _ => 0)⟩ : Lnk), ⟨#[]⟩⟩ : Ob) (.slice none 0 0) (.slice none 0 0) (.slice none 0 0)).cells (objV x (bldVx x.data st1) (bldVx x.ents st7) (bldVx x.pars st13)).cells ((b1, .cells (objV x (bldVx x.data st1) (bldVx x.ents st7) (bldVx x.pars st13)).cells 30 (0, 0)) :: (b2, .cells (objV x (bldVx x.data st1) (bldVx x.ents st7) (bldVx x.pars st13)).cells 30 (0, 0)) :: ((bldMx 25 (idC) x.pars st13) ++ ((bldMx 38 (entC) x.ents st7) ++ (bldMx 5 (byteC) x.data st1)))) rfl Try.sizeOf30 trivial rfl rfl rfl (objV_one _ _ _ _ (bvx_one _ _) (bvx_one _ _) (bvx_one _ _)) rfl rfl rfl rfl (.inl hb2) ?_
          refine TE_nil0 ?_
          refine pn_ret ?_
          exact pn_doneF rfl ⟨objV x (bldVx x.data st1) (bldVx x.ents st7) (bldVx x.pars st13), _, b2, 0, rfl, rfl, load_agg (i := 1) Try.isAgg30 Try.sizeOf30 rfl (Nat.le_of_ble_eq_true rfl) (obj_all _ _ _ _), rfl⟩ ⟨st1, st7, st13, hbo2, hbo8, hbo14, rfl, rfl⟩ (fun _ h => h.sp (fun a => by simp -failIfUnchanged <;> omega)) (fun e he => Or.symm ((ownA (ownN hX3) (ownA (ownN hX9) (ownN hX15))) e he))
        refine TE_l rfl rfl trivial rfl (RD.load (i := 0) (v := xp) Try.isAgg26 rfl rfl rfl) rfl ?_
        refine TE_q rfl rfl (RD.fieldAddr (o := 1) Try.runUnderlying30 rfl rfl Try.sizeOf22 rfl) rfl ?_
        refine TE_callG _ HX rfl rfl trivial Try.call23 rfl rfl rfl (fun w hw => c_cloneE HX xe x.ents w (hw.sp (fun a => by simp -failIfUnchanged <;> omega)) (hbxe.mono (fun _ hw => hw.sp (fun a => by simp -failIfUnchanged <;> omega))) (by first | assumption | omega | (simp; omega))) (fun a => by simp -failIfUnchanged <;> omega) ?_
        rintro v23 H24 ⟨st19, hbo20, rfl, rfl⟩ hX21
        have hRD22 : Rdx 34 (entC) (bldMx 38 (entC) x.ents st19) (bldVx x.ents st19) x.ents := hbo20.rdx (u := 38) entC_len
        refine TE_sp ((b1, .cells (objV x xd xe xp).cells 30 (0, 0)) :: ((bldMx 38 (entC) x.ents st19) ++ (bldMx 5 (byteC) x.data st1))) (fun a => by simp -failIfUnchanged <;> omega) ?_
        refine TE_callG _ HX rfl rfl trivial Try.call24 rfl rfl rfl (fun w hw => c_cloneI HX xp x.pars w (hw.sp (fun a => by simp -failIfUnchanged <;> omega)) (hbxp.mono (fun _ hw => hw.sp (fun a => by simp -failIfUnchanged <;> omega))) (by first | assumption | omega | (simp; omega))) (fun a => by simp -failIfUnchanged <;> omega) ?_
        rintro v29 H30 ⟨st25, hbo26, rfl, rfl⟩ hX27
        have hRD28 : Rdx 32 (idC) (bldMx 25 (idC) x.pars st25) (bldVx x.pars st25) x.pars := hbo26.rdx (u := 25) idC_len
        refine TE_sp ((b1, .cells (objV x xd xe xp).cells 30 (0, 0)) :: ((bldMx 25 (idC) x.pars st25) ++ ((bldMx 38 (entC) x.ents st19) ++ (bldMx 5 (byteC) x.data st1)))) (fun a => by simp -failIfUnchanged <;> omega) ?_
        refine TE_storeC 0 (objV x xd xe xp).cells (objV x (bldVx x.data st1) xe xp).cells ((b1, .cells (objV x (bldVx x.data st1) xe xp).cells 30 (0, 0)) :: ((bldMx 25 (idC) x.pars st25) ++ ((bldMx 38 (entC) x.ents st19) ++ (bldMx 5 (byteC) x.data st1)))) rfl Try.sizeOf22 trivial rfl rfl (bvx_cells _ _) (bvx_one _ _) rfl rfl (put_obj_data _ _ _ _ _ _) rfl (.inl hb1) ?_
        refine TE_q rfl rfl (RD.fieldAddr (o := 2) Try.runUnderlying30 rfl rfl Try.sizeOf23 rfl) rfl ?_
        refine TE_storeC 0 (objV x (bldVx x.data st1) xe xp).cells (objV x (bldVx x.data st1) (bldVx x.ents st19) xp).cells ((b1, .cells (objV x (bldVx x.data st1) (bldVx x.ents st19) xp).cells 30 (0, 0)) :: ((bldMx 25 (idC) x.pars st25) ++ ((bldMx 38 (entC) x.ents st19) ++ (bldMx 5 (byteC) x.data st1)))) rfl Try.sizeOf23 trivial rfl rfl (bvx_cells _ _) (bvx_one _ _) rfl rfl (put_obj_ents _ _ _ _ _ _) rfl (.inl hb1) ?_
        refine TE_q rfl rfl (RD.fieldAddr (o := 35) Try.runUnderlying30 rfl rfl Try.sizeOf26 rfl) rfl ?_
        refine TE_storeC 0 (objV x (bldVx x.data st1) (bldVx x.ents st19) xp).cells (objV x (bldVx x.data st1) (bldVx x.ents st19) (bldVx x.pars st25)).cells ((b1, .cells (objV x (bldVx x.data st1) (bldVx x.ents st19) (bldVx x.pars st25)).cells 30 (0, 0)) :: ((bldMx 25 (idC) x.pars st25) ++ ((bldMx 38 (entC) x.ents st19) ++ (bldMx 5 (byteC) x.data st1)))) rfl Try.sizeOf26 trivial rfl rfl (bvx_cells _ _) (bvx_one _ _) rfl rfl (put_obj_pars _ _ _ _ _ _) rfl (.inl hb1) ?_
        refine TE_nil ?_
        refine pn_seq ?_
        refine pn_plainG [] ((b1, .cells (objV x (bldVx x.data st1) (bldVx x.ents st19) (bldVx x.pars st25)).cells 30 (0, 0)) :: (b2, .cells (objV (⟨0, [], [], (fun _ => 0), [], (⟨0, (fun _ => 0)⟩ : Lnk), ⟨#[]⟩⟩ : Ob) (.slice none 0 0) (.slice none 0 0) (.slice none 0 0)).cells 30 (0, 0)) :: ((bldMx 25 (idC) x.pars st25) ++ ((bldMx 38 (entC) x.ents st19) ++ (bldMx 5 (byteC) x.data st1)))) rfl (fun a => by simp -failIfUnchanged <;> omega) ?_
        refine TE_l rfl rfl trivial rfl (RD.loadA (i := 0) Try.isAgg30 Try.sizeOf30 rfl rfl (Nat.le_of_ble_eq_true rfl) (obj_all _ _ _ _)) rfl ?_
        refine TE_putCW 1 (objV (⟨0, [], [], (fun _ => 0), [], (⟨0, (fun _ => 0)⟩ : Lnk), ⟨#[]⟩⟩ : Ob) (.slice none 0 0) (.slice none 0 0) (.slice none 0 0)).cells (objV x (bldVx x.data st1) (bldVx x.ents st19) (bldVx x.pars st25)).cells ((b1, .cells (objV x (bldVx x.data st1) (bldVx x.ents st19) (bldVx x.pars st25)).cells 30 (0, 0)) :: (b2, .cells (objV x (bldVx x.data st1) (bldVx x.ents st19) (bldVx x.pars st25)).cells 30 (0, 0)) :: ((bldMx 25 (idC) x.pars st25) ++ ((bldMx 38 (entC) x.ents st19) ++ (bldMx 5 (byteC) x.data st1)))) rfl Try.sizeOf30 trivial rfl rfl rfl (objV_one _ _ _ _ (bvx_one _ _) (bvx_one _ _) (bvx_one _ _)) rfl rfl rfl rfl (.inl hb2) ?_
        refine TE_nil0 ?_
        refine pn_ret ?_
        exact pn_doneF rfl ⟨objV x (bldVx x.data st1) (bldVx x.ents st19) (bldVx x.pars st25), _, b2, 0, rfl, rfl, load_agg (i := 1) Try.isAgg30 Try.sizeOf30 rfl (Nat.le_of_ble_eq_true rfl) (obj_all _ _ _ _), rfl⟩ ⟨st1, st19, st25, hbo2, hbo20, hbo26, rfl, rfl⟩ (fun _ h => h.sp (fun a => by simp -failIfUnchanged <;> omega)) (fun e he => Or.symm ((ownA (ownN hX3) (ownA (ownN hX21) (ownN hX27))) e he))
      refine TE_l rfl rfl trivial rfl (RD.load (i := 0) (v := xp) Try.isAgg26 rfl rfl rfl) rfl ?_
      refine TE_l rfl rfl trivial rfl (RD.load (i := 0) (v := xe) Try.isAgg23 rfl rfl rfl) rfl ?_
      refine TE_q rfl rfl (RD.fieldAddr (o := 1) Try.runUnderlying30 rfl rfl Try.sizeOf22 rfl) rfl ?_
      refine TE_callG _ HX rfl rfl trivial Try.call23 rfl rfl rfl (fun w hw => c_cloneE HX xe x.ents w (hw.sp (fun a => by simp -failIfUnchanged <;> omega)) (hbxe.mono (fun _ hw => hw.sp (fun a => by simp -failIfUnchanged <;> omega))) (by first | assumption | omega | (simp; omega))) (fun a => by simp -failIfUnchanged <;> omega) ?_
      rintro v35 H36 ⟨st31, hbo32, rfl, rfl⟩ hX33
      have hRD34 : Rdx 34 (entC) (bldMx 38 (entC) x.ents st31) (bldVx x.ents st31) x.ents := hbo32.rdx (u := 38) entC_len
      refine TE_sp ((b1, .cells (objV x xd xe xp).cells 30 (0, 0)) :: ((bldMx 38 (entC) x.ents st31) ++ (bldMx 5 (byteC) x.data st1))) (fun a => by simp -failIfUnchanged <;> omega) ?_
      refine TE_callG _ HX rfl rfl trivial Try.call24 rfl rfl rfl (fun w hw => c_cloneI HX xp x.pars w (hw.sp (fun a => by simp -failIfUnchanged <;> omega)) (hbxp.mono (fun _ hw => hw.sp (fun a => by simp -failIfUnchanged <;> omega))) (by first | assumption | omega | (simp; omega))) (fun a => by simp -failIfUnchanged <;> omega) ?_
      rintro v41 H42 ⟨st37, hbo38, rfl, rfl⟩ hX39
      have hRD40 : Rdx 32 (idC) (bldMx 25 (idC) x.pars st37) (bldVx x.pars st37) x.pars := hbo38.rdx (u := 25) idC_len
      refine TE_sp ((b1, .cells (objV x xd xe xp).cells 30 (0, 0)) :: ((bldMx 25 (idC) x.pars st37) ++ ((bldMx 38 (entC) x.ents st31) ++ (bldMx 5 (byteC) x.data st1)))) (fun a => by simp -failIfUnchanged <;> omega) ?_
      refine TE_storeC 0 (objV x xd xe xp).cells (objV x (bldVx x.data st1) xe xp).cells ((b1, .cells (objV x (bldVx x.data st1) xe xp).cells 30 (0, 0)) :: ((bldMx 25 (idC) x.pars st37) ++ ((bldMx 38 (entC) x.ents st31) ++ (bldMx 5 (byteC) x.data st1)))) rfl Try.sizeOf22 trivial rfl rfl (bvx_cells _ _) (bvx_one _ _) rfl rfl (put_obj_data _ _ _ _ _ _) rfl (.inl hb1) ?_
      refine TE_q rfl rfl (RD.fieldAddr (o := 2) Try.runUnderlying30 rfl rfl Try.sizeOf23 rfl) rfl ?_
      refine TE_storeC 0 (objV x (bldVx x.data st1) xe xp).cells (objV x (bldVx x.data st1) (bldVx x.ents st31) xp).cells ((b1, .cells (objV x (bldVx x.data st1) (bldVx x.ents st31) xp).cells 30 (0, 0)) :: ((bldMx 25 (idC) x.pars st37) ++ ((bldMx 38 (entC) x.ents st31) ++ (bldMx 5 (byteC) x.data st1)))) rfl Try.sizeOf23 trivial rfl rfl (bvx_cells _ _) (bvx_one _ _) rfl rfl (put_obj_ents _ _ _ _ _ _) rfl (.inl hb1) ?_
      refine TE_q rfl rfl (RD.fieldAddr (o := 35) Try.runUnderlying30 rfl rfl Try.sizeOf26 rfl) rfl ?_
      refine TE_storeC 0 (objV x (bldVx x.data st1) (bldVx x.ents st31) xp).cells (objV x (bldVx x.data st1) (bldVx x.ents st31) (bldVx x.pars st37)).cells ((b1, .cells (objV x (bldVx x.data st1) (bldVx x.ents st31) (bldVx x.pars st37)).cells 30 (0, 0)) :: ((bldMx 25 (idC) x.pars st37) ++ ((bldMx 38 (entC) x.ents st31) ++ (bldMx 5 (byteC) x.data st1)))) rfl Try.sizeOf26 trivial rfl rfl (bvx_cells _ _) (bvx_one _ _) rfl rfl (put_obj_pars _ _ _ _ _ _) rfl (.inl hb1) ?_
      refine TE_nil ?_
      refine pn_seq ?_
      refine pn_plainG [] ((b1, .cells (objV x (bldVx x.data st1) (bldVx x.ents st31) (bldVx x.pars st37)).cells 30 (0, 0)) :: (b2, .cells (objV (⟨0, [], [], (fun _ => 0), [], (⟨0, (fun _ => 0)⟩ : Lnk), ⟨#[]⟩⟩ : Ob) (.slice none 0 0) (.slice none 0 0) (.slice none 0 0)).cells 30 (0, 0)) :: ((bldMx 25 (idC) x.pars st37) ++ ((bldMx 38 (entC) x.ents st31) ++ (bldMx 5 (byteC) x.data st1)))) rfl (fun a => by simp -failIfUnchanged <;> omega) ?_
      refine TE_l rfl rfl trivial rfl (RD.loadA (i := 0) Try.isAgg30 Try.sizeOf30 rfl rfl (Nat.le_of_ble_eq_true rfl) (obj_all _ _ _ _)) rfl ?_
      refine TE_putCW 1 (objV (⟨0, [], [], (fun _ => 0), [], (⟨0, (fun _ => 0)⟩ : Lnk), ⟨#[]⟩⟩ : Ob) (.slice none 0 0) (.slice none 0 0) (.slice none 0 0)).cells (objV x (bldVx x.data st1) (bldVx x.ents st31) (bldVx x.pars st37)).cells ((b1, .cells (objV x (bldVx x.data st1) (bldVx x.ents st31) (bldVx x.pars st37)).cells 30 (0, 0)) :: (b2, .cells (objV x (bldVx x.data st1) (bldVx x.ents st31) (bldVx x.pars st37)).cells 30 (0, 0)) :: ((bldMx 25 (idC) x.pars st37) ++ ((bldMx 38 (entC) x.ents st31) ++ (bldMx 5 (byteC) x.data st1)))) rfl Try.sizeOf30 trivial rfl rfl rfl (objV_one _ _ _ _ (bvx_one _ _) (bvx_one _ _) (bvx_one _ _)) rfl rfl rfl rfl (.inl hb2) ?_
      refine TE_nil0 ?_
      refine pn_ret ?_
      exact pn_doneF rfl ⟨objV x (bldVx x.data st1) (bldVx x.ents st31) (bldVx x.pars st37), _, b2, 0, rfl, rfl, load_agg (i := 1) Try.isAgg30 Try.sizeOf30 rfl (Nat.le_of_ble_eq_true rfl) (obj_all _ _ _ _), rfl⟩ ⟨st1, st31, st37, hbo2, hbo32, hbo38, rfl, rfl⟩ (fun _ h => h.sp (fun a => by simp -failIfUnchanged <;> omega)) (fun e he => Or.symm ((ownA (ownN hX3) (ownA (ownN hX33) (ownN hX39))) e he))
    refine TE_fork ?_ ?_
    · refine TE_l rfl rfl trivial rfl (RD.load (i := 0) (v := xe) Try.isAgg23 rfl rfl rfl) rfl ?_
      refine TE_fork ?_ ?_
      · refine TE_callG _ HX rfl rfl trivial Try.call22 rfl rfl rfl (fun w hw => c_cloneB HX xd x.data w (hw.sp (fun a => by simp -failIfUnchanged <;> omega)) ((Rdx.of_b hbxd).mono (fun _ hw => hw.sp (fun a => by simp -failIfUnchanged <;> omega))) (by first | assumption | omega | (simp; omega))) (fun a => by simp -failIfUnchanged <;> omega) ?_
        rintro v47 H48 ⟨st43, hbo44, rfl, rfl⟩ hX45
        have hRD46 : Rdx 1 (byteC) (bldMx 5 (byteC) x.data st43) (bldVx x.data st43) x.data := hbo44.rdx (u := 5) byteC_len
        refine TE_sp ((b1, .cells (objV x xd xe xp).cells 30 (0, 0)) :: (bldMx 5 (byteC) x.data st43)) (fun a => by simp -failIfUnchanged <;> omega) ?_
        refine TE_fork ?_ ?_
        · refine TE_callG _ HX rfl rfl trivial Try.call23 rfl rfl rfl (fun w hw => c_cloneE HX xe x.ents w (hw.sp (fun a => by simp -failIfUnchanged <;> omega)) (hbxe.mono (fun _ hw => hw.sp (fun a => by simp -failIfUnchanged <;> omega))) (by first | assumption | omega | (simp; omega))) (fun a => by simp -failIfUnchanged <;> omega) ?_
          rintro v53 H54 ⟨st49, hbo50, rfl, rfl⟩ hX51
          have hRD52 : Rdx 34 (entC) (bldMx 38 (entC) x.ents st49) (bldVx x.ents st49) x.ents := hbo50.rdx (u := 38) entC_len
          refine TE_sp ((b1, .cells (objV x xd xe xp).cells 30 (0, 0)) :: ((bldMx 38 (entC) x.ents st49) ++ (bldMx 5 (byteC) x.data st43))) (fun a => by simp -failIfUnchanged <;> omega) ?_
          refine TE_l rfl rfl trivial rfl (RD.load (i := 0) (v := xp) Try.isAgg26 rfl rfl rfl) rfl ?_
          refine TE_q rfl rfl (RD.fieldAddr (o := 1) Try.runUnderlying30 rfl rfl Try.sizeOf22 rfl) rfl ?_
          refine TE_callG _ HX rfl rfl trivial Try.call24 rfl rfl rfl (fun w hw => c_cloneI HX xp x.pars w (hw.sp (fun a => by simp -failIfUnchanged <;> omega)) (hbxp.mono (fun _ hw => hw.sp (fun a => by simp -failIfUnchanged <;> omega))) (by first | assumption | omega | (simp; omega))) (fun a => by simp -failIfUnchanged <;> omega) ?_
          rintro v59 H60 ⟨st55, hbo56, rfl, rfl⟩ hX57
          have hRD58 : Rdx 32 (idC) (bldMx 25 (idC) x.pars st55) (bldVx x.pars st55) x.pars := hbo56.rdx (u := 25) idC_len
          refine TE_sp ((b1, .cells (objV x xd xe xp).cells 30 (0, 0)) :: ((bldMx 25 (idC) x.pars st55) ++ ((bldMx 38 (entC) x.ents st49) ++ (bldMx 5 (byteC) x.data st43)))) (fun a => by simp -failIfUnchanged <;> omega) ?_
          refine TE_storeC 0 (objV x xd xe xp).cells (objV x (bldVx x.data st43) xe xp).cells ((b1, .cells (objV x (bldVx x.data st43) xe xp).cells 30 (0, 0)) :: ((bldMx 25 (idC) x.pars st55) ++ ((bldMx 38 (entC) x.ents st49) ++ (bldMx 5 (byteC) x.data st43)))) rfl Try.sizeOf22 trivial rfl rfl (bvx_cells _ _) (bvx_one _ _) rfl rfl (put_obj_data _ _ _ _ _ _) rfl (.inl hb1) ?_
          refine TE_q rfl rfl (RD.fieldAddr (o := 2) Try.runUnderlying30 rfl rfl Try.sizeOf23 rfl) rfl ?_
          refine TE_storeC 0 (objV x (bldVx x.data st43) xe xp).cells (objV x (bldVx x.data st43) (bldVx x.ents st49) xp).cells ((b1, .cells (objV x (bldVx x.data st43) (bldVx x.ents st49) xp).cells 30 (0, 0)) :: ((bldMx 25 (idC) x.pars st55) ++ ((bldMx 38 (entC) x.ents st49) ++ (bldMx 5 (byteC) x.data st43)))) rfl Try.sizeOf23 trivial rfl rfl (bvx_cells _ _) (bvx_one _ _) rfl rfl (put_obj_ents _ _ _ _ _ _) rfl (.inl hb1) ?_
          refine TE_q rfl rfl (RD.fieldAddr (o := 35) Try.runUnderlying30 rfl rfl Try.sizeOf26 rfl) rfl ?_
          refine TE_storeC 0 (objV x (bldVx x.data st43) (bldVx x.ents st49) xp).cells (objV x (bldVx x.data st43) (bldVx x.ents st49) (bldVx x.pars st55)).cells ((b1, .cells (objV x (bldVx x.data st43) (bldVx x.ents st49) (bldVx x.pars st55)).cells 30 (0, 0)) :: ((bldMx 25 (idC) x.pars st55) ++ ((bldMx 38 (entC) x.ents st49) ++ (bldMx 5 (byteC) x.data st43)))) rfl Try.sizeOf26 trivial rfl rfl (bvx_cells _ _) (bvx_one _ _) rfl rfl (put_obj_pars _ _ _ _ _ _) rfl (.inl hb1) ?_
          refine TE_nil ?_
          refine pn_seq ?_
          refine pn_plainG [] ((b1, .cells (objV x (bldVx x.data st43) (bldVx x.ents st49) (bldVx x.pars st55)).cells 30 (0, 0)) :: (b2, .cells (objV (⟨0, [], [], (fun _ => 0), [], (⟨0, (fun _ => 0)⟩ : Lnk), ⟨#[]⟩⟩ : Ob) (.slice none 0 0) (.slice none 0 0) (.slice none 0 0)).cells 30 (0, 0)) :: ((bldMx 25 (idC) x.pars st55) ++ ((bldMx 38 (entC) x.ents st49) ++ (bldMx 5 (byteC) x.data st43)))) rfl (fun a => by simp -failIfUnchanged <;> omega) ?_
          refine TE_l rfl rfl trivial rfl (RD.loadA (i := 0) Try.isAgg30 Try.sizeOf30 rfl rfl (Nat.le_of_ble_eq_true rfl) (obj_all _ _ _ _)) rfl ?_
          refine TE_putCW 1 (objV (⟨0, [], [], (fun _ => 0), [], (⟨0, (fun _ => 0)⟩ : Lnk), ⟨#[]⟩⟩ : Ob) (.slice none 0 0) (.slice none 0 0) (.slice none 0 0)).cells (objV x (bldVx x.data st43) (bldVx x.ents st49) (bldVx x.pars st55)).cells ((b1, .cells (objV x (bldVx x.data st43) (bldVx x.ents st49) (bldVx x.pars st55)).cells 30 (0, 0)) :: (b2, .cells (objV x (bldVx x.data st43) (bldVx x.ents st49) (bldVx x.pars st55)).cells 30 (0, 0)) :: ((bldMx 25 (idC) x.pars st55) ++ ((bldMx 38 (entC) x.ents st49) ++ (bldMx 5 (byteC) x.data st43)))) rfl Try.sizeOf30 trivial rfl rfl rfl (objV_one _ _ _ _ (bvx_one _ _) (bvx_one _ _) (bvx_one _ _)) rfl rfl rfl rfl (.inl hb2) ?_
          refine TE_nil0 ?_
          refine pn_ret ?_
          exact pn_doneF rfl ⟨objV x (bldVx x.data st43) (bldVx x.ents st49) (bldVx x.pars st55), _, b2, 0, rfl, rfl, load_agg (i := 1) Try.isAgg30 Try.sizeOf30 rfl (Nat.le_of_ble_eq_true rfl) (obj_all _ _ _ _), rfl⟩ ⟨st43, st49, st55, hbo44, hbo50, hbo56, rfl, rfl⟩ (fun _ h => h.sp (fun a => by simp -failIfUnchanged <;> omega)) (fun e he => Or.symm ((ownA (ownN hX45) (ownA (ownN hX51) (ownN hX57))) e he))
        refine TE_l rfl rfl trivial rfl (RD.load (i := 0) (v := xp) Try.isAgg26 rfl rfl rfl) rfl ?_
        refine TE_q rfl rfl (RD.fieldAddr (o := 1) Try.runUnderlying30 rfl rfl Try.sizeOf22 rfl) rfl ?_
        refine TE_callG _ HX rfl rfl trivial Try.call23 rfl rfl rfl (fun w hw => c_cloneE HX xe x.ents w (hw.sp (fun a => by simp -failIfUnchanged <;> omega)) (hbxe.mono (fun _ hw => hw.sp (fun a => by simp -failIfUnchanged <;> omega))) (by first | assumption | omega | (simp; omega))) (fun a => by simp -failIfUnchanged <;> omega) ?_
        rintro v65 H66 ⟨st61, hbo62, rfl, rfl⟩ hX63
        have hRD64 : Rdx 34 (entC) (bldMx 38 (entC) x.ents st61) (bldVx x.ents st61) x.ents := hbo62.rdx (u := 38) entC_len
        refine TE_sp ((b1, .cells (objV x xd xe xp).cells 30 (0, 0)) :: ((bldMx 38 (entC) x.ents st61) ++ (bldMx 5 (byteC) x.data st43))) (fun a => by simp -failIfUnchanged <;> omega) ?_
        refine TE_callG _ HX rfl rfl trivial Try.call24 rfl rfl rfl (fun w hw => c_cloneI HX xp x.pars w (hw.sp (fun a => by simp -failIfUnchanged <;> omega)) (hbxp.mono (fun _ hw => hw.sp (fun a => by simp -failIfUnchanged <;> omega))) (by first | assumption | omega | (simp; omega))) (fun a => by simp -failIfUnchanged <;> omega) ?_
        rintro v71 H72 ⟨st67, hbo68, rfl, rfl⟩ hX69
        have hRD70 : Rdx 32 (idC) (bldMx 25 (idC) x.pars st67) (bldVx x.pars st67) x.pars := hbo68.rdx (u := 25) idC_len
        refine TE_sp ((b1, .cells (objV x xd xe xp).cells 30 (0, 0)) :: ((bldMx 25 (idC) x.pars st67) ++ ((bldMx 38 (entC) x.ents st61) ++ (bldMx 5 (byteC) x.data st43)))) (fun a => by simp -failIfUnchanged <;> omega) ?_
        refine TE_storeC 0 (objV x xd xe xp).cells (objV x (bldVx x.data st43) xe xp).cells ((b1, .cells (objV x (bldVx x.data st43) xe xp).cells 30 (0, 0)) :: ((bldMx 25 (idC) x.pars st67) ++ ((bldMx 38 (entC) x.ents st61) ++ (bldMx 5 (byteC) x.data st43)))) rfl Try.sizeOf22 trivial rfl rfl (bvx_cells _ _) (bvx_one _ _) rfl rfl (put_obj_data _ _ _ _ _ _) rfl (.inl hb1) ?_
        refine TE_q rfl rfl (RD.fieldAddr (o := 2) Try.runUnderlying30 rfl rfl Try.sizeOf23 rfl) rfl ?_
        refine TE_storeC 0 (objV x (bldVx x.data st43) xe xp).cells (objV x (bldVx x.data st43) (bldVx x.ents st61) xp).cells ((b1, .cells (objV x (bldVx x.data st43) (bldVx x.ents st61) xp).cells 30 (0, 0)) :: ((bldMx 25 (idC) x.pars st67) ++ ((bldMx 38 (entC) x.ents st61) ++ (bldMx 5 (byteC) x.data st43)))) rfl Try.sizeOf23 trivial rfl rfl (bvx_cells _ _) (bvx_one _ _) rfl rfl (put_obj_ents _ _ _ _ _ _) rfl (.inl hb1) ?_
        refine TE_q rfl rfl (RD.fieldAddr (o := 35) Try.runUnderlying30 rfl rfl Try.sizeOf26 rfl) rfl ?_
        refine TE_storeC 0 (objV x (bldVx x.data st43) (bldVx x.ents st61) xp).cells (objV x (bldVx x.data st43) (bldVx x.ents st61) (bldVx x.pars st67)).cells ((b1, .cells (objV x (bldVx x.data st43) (bldVx x.ents st61) (bldVx x.pars st67)).cells 30 (0, 0)) :: ((bldMx 25 (idC) x.pars st67) ++ ((bldMx 38 (entC) x.ents st61) ++ (bldMx 5 (byteC) x.data st43)))) rfl Try.sizeOf26 trivial rfl rfl (bvx_cells _ _) (bvx_one _ _) rfl rfl (put_obj_pars _ _ _ _ _ _) rfl (.inl hb1) ?_
        refine TE_nil ?_
        refine pn_seq ?_
        refine pn_plainG [] ((b1, .cells (objV x (bldVx x.data st43) (bldVx x.ents st61) (bldVx x.pars st67)).cells 30 (0, 0)) :: (b2, .cells (objV (⟨0, [], [], (fun _ => 0), [], (⟨0, (fun _ => 0)⟩ : Lnk), ⟨#[]⟩⟩ : Ob) (.slice none 0 0) (.slice none 0 0) (.slice none 0 0)).cells 30 (0, 0)) :: ((bldMx 25 (idC) x.pars st67) ++ ((bldMx 38 (entC) x.ents st61) ++ (bldMx 5 (byteC) x.data st43)))) rfl (fun a => by simp -failIfUnchanged <;> omega) ?_
        refine TE_l rfl rfl trivial rfl (RD.loadA (i := 0) Try.isAgg30 Try.sizeOf30 rfl rfl (Nat.le_of_ble_eq_true rfl) (obj_all _ _ _ _)) rfl ?_
        refine TE_putCW 1 (objV (⟨0, [], [], (fun _ => 0), [], (⟨0, (fun _ => 0)⟩ : Lnk), ⟨#[]⟩⟩ : Ob) (.slice none 0 0) (.slice none 0 0) (.slice none 0 0)).cells (objV x (bldVx x.data st43) (bldVx x.ents st61) (bldVx x.pars st67)).cells ((b1, .cells (objV x (bldVx x.data st43) (bldVx x.ents st61) (bldVx x.pars st67)).cells 30 (0, 0)) :: (b2, .cells (objV x (bldVx x.data st43) (bldVx x.ents st61) (bldVx x.pars st67)).cells 30 (0, 0)) :: ((bldMx 25 (idC) x.pars st67) ++ ((bldMx 38 (entC) x.ents st61) ++ (bldMx 5 (byteC) x.data st43)))) rfl Try.sizeOf30 trivial rfl rfl rfl (objV_one _ _ _ _ (bvx_one _ _) (bvx_one _ _) (bvx_one _ _)) rfl rfl rfl rfl (.inl hb2) ?_
        refine TE_nil0 ?_
        refine pn_ret ?_
        exact pn_doneF rfl ⟨objV x (bldVx x.data st43) (bldVx x.ents st61) (bldVx x.pars st67), _, b2, 0, rfl, rfl, load_agg (i := 1) Try.isAgg30 Try.sizeOf30 rfl (Nat.le_of_ble_eq_true rfl) (obj_all _ _ _ _), rfl⟩ ⟨st43, st61, st67, hbo44, hbo62, hbo68, rfl, rfl⟩ (fun _ h => h.sp (fun a => by simp -failIfUnchanged <;> omega)) (fun e he => Or.symm ((ownA (ownN hX45) (ownA (ownN hX63) (ownN hX69))) e he))
      refine TE_l rfl rfl trivial rfl (RD.load (i := 0) (v := xp) Try.isAgg26 rfl rfl rfl) rfl ?_
      refine TE_callG _ HX rfl rfl trivial Try.call22 rfl rfl rfl (fun w hw => c_cloneB HX xd x.data w (hw.sp (fun a => by simp -failIfUnchanged <;> omega)) ((Rdx.of_b hbxd).mono (fun _ hw => hw.sp (fun a => by simp -failIfUnchanged <;> omega))) (by first | assumption | omega | (simp; omega))) (fun a => by simp -failIfUnchanged <;> omega) ?_
      rintro v77 H78 ⟨st73, hbo74, rfl, rfl⟩ hX75
      have hRD76 : Rdx 1 (byteC) (bldMx 5 (byteC) x.data st73) (bldVx x.data st73) x.data := hbo74.rdx (u := 5) byteC_len
      refine TE_sp ((b1, .cells (objV x xd xe xp).cells 30 (0, 0)) :: (bldMx 5 (byteC) x.data st73)) (fun a => by simp -failIfUnchanged <;> omega) ?_
      refine TE_q rfl rfl (RD.fieldAddr (o := 1) Try.runUnderlying30 rfl rfl Try.sizeOf22 rfl) rfl ?_
      refine TE_callG _ HX rfl rfl trivial Try.call23 rfl rfl rfl (fun w hw => c_cloneE HX xe x.ents w (hw.sp (fun a => by simp -failIfUnchanged <;> omega)) (hbxe.mono (fun _ hw => hw.sp (fun a => by simp -failIfUnchanged <;> omega))) (by first | assumption | omega | (simp; omega))) (fun a => by simp -failIfUnchanged <;> omega) ?_
      rintro v83 H84 ⟨st79, hbo80, rfl, rfl⟩ hX81
      have hRD82 : Rdx 34 (entC) (bldMx 38 (entC) x.ents st79) (bldVx x.ents st79) x.ents := hbo80.rdx (u := 38) entC_len
      refine TE_sp ((b1, .cells (objV x xd xe xp).cells 30 (0, 0)) :: ((bldMx 38 (entC) x.ents st79) ++ (bldMx 5 (byteC) x.data st73))) (fun a => by simp -failIfUnchanged <;> omega) ?_
      refine TE_callG _ HX rfl rfl trivial Try.call24 rfl rfl rfl (fun w hw => c_cloneI HX xp x.pars w (hw.sp (fun a => by simp -failIfUnchanged <;> omega)) (hbxp.mono (fun _ hw => hw.sp (fun a => by simp -failIfUnchanged <;> omega))) (by first | assumption | omega | (simp; omega))) (fun a => by simp -failIfUnchanged <;> omega) ?_
      rintro v89 H90 ⟨st85, hbo86, rfl, rfl⟩ hX87
      have hRD88 : Rdx 32 (idC) (bldMx 25 (idC) x.pars st85) (bldVx x.pars st85) x.pars := hbo86.rdx (u := 25) idC_len
      refine TE_sp ((b1, .cells (objV x xd xe xp).cells 30 (0, 0)) :: ((bldMx 25 (idC) x.pars st85) ++ ((bldMx 38 (entC) x.ents st79) ++ (bldMx 5 (byteC) x.data st73)))) (fun a => by simp -failIfUnchanged <;> omega) ?_
      refine TE_storeC 0 (objV x xd xe xp).cells (objV x (bldVx x.data st73) xe xp).cells ((b1, .cells (objV x (bldVx x.data st73) xe xp).cells 30 (0, 0)) :: ((bldMx 25 (idC) x.pars st85) ++ ((bldMx 38 (entC) x.ents st79) ++ (bldMx 5 (byteC) x.data st73)))) rfl Try.sizeOf22 trivial rfl rfl (bvx_cells _ _) (bvx_one _ _) rfl rfl (put_obj_data _ _ _ _ _ _) rfl (.inl hb1) ?_
      refine TE_q rfl rfl (RD.fieldAddr (o := 2) Try.runUnderlying30 rfl rfl Try.sizeOf23 rfl) rfl ?_
      refine TE_storeC 0 (objV x (bldVx x.data st73) xe xp).cells (objV x (bldVx x.data st73) (bldVx x.ents st79) xp).cells ((b1, .cells (objV x (bldVx x.data st73) (bldVx x.ents st79) xp).cells 30 (0, 0)) :: ((bldMx 25 (idC) x.pars st85) ++ ((bldMx 38 (entC) x.ents st79) ++ (bldMx 5 (byteC) x.data st73)))) rfl Try.sizeOf23 trivial rfl rfl (bvx_cells _ _) (bvx_one _ _) rfl rfl (put_obj_ents _ _ _ _ _ _) rfl (.inl hb1) ?_
      refine TE_q rfl rfl (RD.fieldAddr (o := 35) Try.runUnderlying30 rfl rfl Try.sizeOf26 rfl) rfl ?_
      refine TE_storeC 0 (objV x (bldVx x.data st73) (bldVx x.ents st79) xp).cells (objV x (bldVx x.data st73) (bldVx x.ents st79) (bldVx x.pars st85)).cells ((b1, .cells (objV x (bldVx x.data st73) (bldVx x.ents st79) (bldVx x.pars st85)).cells 30 (0, 0)) :: ((bldMx 25 (idC) x.pars st85) ++ ((bldMx 38 (entC) x.ents st79) ++ (bldMx 5 (byteC) x.data st73)))) rfl Try.sizeOf26 trivial rfl rfl (bvx_cells _ _) (bvx_one _ _) rfl rfl (put_obj_pars _ _ _ _ _ _) rfl (.inl hb1) ?_
      refine TE_nil ?_
      refine pn_seq ?_
      refine pn_plainG [] ((b1, .cells (objV x (bldVx x.data st73) (bldVx x.ents st79) (bldVx x.pars st85)).cells 30 (0, 0)) :: (b2, .cells (objV (⟨0, [], [], (fun _ => 0), [], (⟨0, (fun _ => 0)⟩ : Lnk), ⟨#[]⟩⟩ : Ob) (.slice none 0 0) (.slice none 0 0) (.slice none 0 0)).cells 30 (0, 0)) :: ((bldMx 25 (idC) x.pars st85) ++ ((bldMx 38 (entC) x.ents st79) ++ (bldMx 5 (byteC) x.data st73)))) rfl (fun a => by simp -failIfUnchanged <;> omega) ?_
      refine TE_l rfl rfl trivial rfl (RD.loadA (i := 0) Try.isAgg30 Try.sizeOf30 rfl rfl (Nat.le_of_ble_eq_true rfl) (obj_all _ _ _ _)) rfl ?_
      refine TE_putCW 1 (objV (⟨0, [], [], (fun _ => 0), [], (⟨0, (fun _ => 0)⟩ : Lnk), ⟨#[]⟩⟩ : Ob) (.slice none 0 0) (.slice none 0 0) (.slice none 0 0)).cells (objV x (bldVx x.data st73) (bldVx x.ents st79) (bldVx x.pars st85)).cells ((b1, .cells (objV x (bldVx x.data st73) (bldVx x.ents st79) (bldVx x.pars st85)).cells 30 (0, 0)) :: (b2, .cells (objV x (bldVx x.data st73) (bldVx x.ents st79) (bldVx x.pars st85)).cells 30 (0, 0)) :: ((bldMx 25 (idC) x.pars st85) ++ ((bldMx 38 (entC) x.ents st79) ++ (bldMx 5 (byteC) x.data st73)))) rfl Try.sizeOf30 trivial rfl rfl rfl (objV_one _ _ _ _ (bvx_one _ _) (bvx_one _ _) (bvx_one _ _)) rfl rfl rfl rfl (.inl hb2) ?_
      refine TE_nil0 ?_
      refine pn_ret ?_
      exact pn_doneF rfl ⟨objV x (bldVx x.data st73) (bldVx x.ents st79) (bldVx x.pars st85), _, b2, 0, rfl, rfl, load_agg (i := 1) Try.isAgg30 Try.sizeOf30 rfl (Nat.le_of_ble_eq_true rfl) (obj_all _ _ _ _), rfl⟩ ⟨st73, st79, st85, hbo74, hbo80, hbo86, rfl, rfl⟩ (fun _ h => h.sp (fun a => by simp -failIfUnchanged <;> omega)) (fun e he => Or.symm ((ownA (ownN hX75) (ownA (ownN hX81) (ownN hX87))) e he))
    refine TE_l rfl rfl trivial rfl (RD.load (i := 0) (v := xp) Try.isAgg26 rfl rfl rfl) rfl ?_
    refine TE_fork ?_ ?_
    · refine TE_callG _ HX rfl rfl trivial Try.call22 rfl rfl rfl (fun w hw => c_cloneB HX xd x.data w (hw.sp (fun a => by simp -failIfUnchanged <;> omega)) ((Rdx.of_b hbxd).mono (fun _ hw => hw.sp (fun a => by simp -failIfUnchanged <;> omega))) (by first | assumption | omega | (simp; omega))) (fun a => by simp -failIfUnchanged <;> omega) ?_
      rintro v95 H96 ⟨st91, hbo92, rfl, rfl⟩ hX93
      have hRD94 : Rdx 1 (byteC) (bldMx 5 (byteC) x.data st91) (bldVx x.data st91) x.data := hbo92.rdx (u := 5) byteC_len
      refine TE_sp ((b1, .cells (objV x xd xe xp).cells 30 (0, 0)) :: (bldMx 5 (byteC) x.data st91)) (fun a => by simp -failIfUnchanged <;> omega) ?_
      refine TE_l rfl rfl trivial rfl (RD.load (i := 0) (v := xe) Try.isAgg23 rfl rfl rfl) rfl ?_
      refine TE_q rfl rfl (RD.fieldAddr (o := 1) Try.runUnderlying30 rfl rfl Try.sizeOf22 rfl) rfl ?_
      refine TE_callG _ HX rfl rfl trivial Try.call23 rfl rfl rfl (fun w hw => c_cloneE HX xe x.ents w (hw.sp (fun a => by simp -failIfUnchanged <;> omega)) (hbxe.mono (fun _ hw => hw.sp (fun a => by simp -failIfUnchanged <;> omega))) (by first | assumption | omega | (simp; omega))) (fun a => by simp -failIfUnchanged <;> omega) ?_
      rintro v101 H102 ⟨st97, hbo98, rfl, rfl⟩ hX99
      have hRD100 : Rdx 34 (entC) (bldMx 38 (entC) x.ents st97) (bldVx x.ents st97) x.ents := hbo98.rdx (u := 38) entC_len
      refine TE_sp ((b1, .cells (objV x xd xe xp).cells 30 (0, 0)) :: ((bldMx 38 (entC) x.ents st97) ++ (bldMx 5 (byteC) x.data st91))) (fun a => by simp -failIfUnchanged <;> omega) ?_
      refine TE_callG _ HX rfl rfl trivial Try.call24 rfl rfl rfl (fun w hw => c_cloneI HX xp x.pars w (hw.sp (fun a => by simp -failIfUnchanged <;> omega)) (hbxp.mono (fun _ hw => hw.sp (fun a => by simp -failIfUnchanged <;> omega))) (by first | assumption | omega | (simp; omega))) (fun a => by simp -failIfUnchanged <;> omega) ?_
      rintro v107 H108 ⟨st103, hbo104, rfl, rfl⟩ hX105
      have hRD106 : Rdx 32 (idC) (bldMx 25 (idC) x.pars st103) (bldVx x.pars st103) x.pars := hbo104.rdx (u := 25) idC_len
      refine TE_sp ((b1, .cells (objV x xd xe xp).cells 30 (0, 0)) :: ((bldMx 25 (idC) x.pars st103) ++ ((bldMx 38 (entC) x.ents st97) ++ (bldMx 5 (byteC) x.data st91)))) (fun a => by simp -failIfUnchanged <;> omega) ?_
      refine TE_storeC 0 (objV x xd xe xp).cells (objV x (bldVx x.data st91) xe xp).cells ((b1, .cells (objV x (bldVx x.data st91) xe xp).cells 30 (0, 0)) :: ((bldMx 25 (idC) x.pars st103) ++ ((bldMx 38 (entC) x.ents st97) ++ (bldMx 5 (byteC) x.data st91)))) rfl Try.sizeOf22 trivial rfl rfl (bvx_cells _ _) (bvx_one _ _) rfl rfl (put_obj_data _ _ _ _ _ _) rfl (.inl hb1) ?_
      refine TE_q rfl rfl (RD.fieldAddr (o := 2) Try.runUnderlying30 rfl rfl Try.sizeOf23 rfl) rfl ?_
      refine TE_storeC 0 (objV x (bldVx x.data st91) xe xp).cells (objV x (bldVx x.data st91) (bldVx x.ents st97) xp).cells ((b1, .cells (objV x (bldVx x.data st91) (bldVx x.ents st97) xp).cells 30 (0, 0)) :: ((bldMx 25 (idC) x.pars st103) ++ ((bldMx 38 (entC) x.ents st97) ++ (bldMx 5 (byteC) x.data st91)))) rfl Try.sizeOf23 trivial rfl rfl (bvx_cells _ _) (bvx_one _ _) rfl rfl (put_obj_ents _ _ _ _ _ _) rfl (.inl hb1) ?_
      refine TE_q rfl rfl (RD.fieldAddr (o := 35) Try.runUnderlying30 rfl rfl Try.sizeOf26 rfl) rfl ?_
      refine TE_storeC 0 (objV x (bldVx x.data st91) (bldVx x.ents st97) xp).cells (objV x (bldVx x.data st91) (bldVx x.ents st97) (bldVx x.pars st103)).cells ((b1, .cells (objV x (bldVx x.data st91) (bldVx x.ents st97) (bldVx x.pars st103)).cells 30 (0, 0)) :: ((bldMx 25 (idC) x.pars st103) ++ ((bldMx 38 (entC) x.ents st97) ++ (bldMx 5 (byteC) x.data st91)))) rfl Try.sizeOf26 trivial rfl rfl (bvx_cells _ _) (bvx_one _ _) rfl rfl (put_obj_pars _ _ _ _ _ _) rfl (.inl hb1) ?_
      refine TE_nil ?_
      refine pn_seq ?_
      refine pn_plainG [] ((b1, .cells (objV x (bldVx x.data st91) (bldVx x.ents st97) (bldVx x.pars st103)).cells 30 (0, 0)) :: (b2, .cells (objV (⟨0, [], [], (fun _ => 0), [], (⟨0, (fun _ => 0)⟩ : Lnk), ⟨#[]⟩⟩ : Ob) (.slice none 0 0) (.slice none 0 0) (.slice none 0 0)).cells 30 (0, 0)) :: ((bldMx 25 (idC) x.pars st103) ++ ((bldMx 38 (entC) x.ents st97) ++ (bldMx 5 (byteC) x.data st91)))) rfl (fun a => by simp -failIfUnchanged <;> omega) ?_
      refine TE_l rfl rfl trivial rfl (RD.loadA (i := 0) Try.isAgg30 Try.sizeOf30 rfl rfl (Nat.le_of_ble_eq_true rfl) (obj_all _ _ _ _)) rfl ?_
      refine TE_putCW 1 (objV (⟨0, [], [], (fun _ => 0), [], (⟨0, (fun _ => 0)⟩ : Lnk), ⟨#[]⟩⟩ : Ob) (.slice none 0 0) (.slice none 0 0) (.slice none 0 0)).cells (objV x (bldVx x.data st91) (bldVx x.ents st97) (bldVx x.pars st103)).cells ((b1, .cells (objV x (bldVx x.data st91) (bldVx x.ents st97) (bldVx x.pars st103)).cells 30 (0, 0)) :: (b2, .cells (objV x (bldVx x.data st91) (bldVx x.ents st97) (bldVx x.pars st103)).cells 30 (0, 0)) :: ((bldMx 25 (idC) x.pars st103) ++ ((bldMx 38 (entC) x.ents st97) ++ (bldMx 5 (byteC) x.data st91)))) rfl Try.sizeOf30 trivial rfl rfl rfl (objV_one _ _ _ _ (bvx_one _ _) (bvx_one _ _) (bvx_one _ _)) rfl rfl rfl rfl (.inl hb2) ?_
      refine TE_nil0 ?_
      refine pn_ret ?_
      exact pn_doneF rfl ⟨objV x (bldVx x.data st91) (bldVx x.ents st97) (bldVx x.pars st103), _, b2, 0, rfl, rfl, load_agg (i := 1) Try.isAgg30 Try.sizeOf30 rfl (Nat.le_of_ble_eq_true rfl) (obj_all _ _ _ _), rfl⟩ ⟨st91, st97, st103, hbo92, hbo98, hbo104, rfl, rfl⟩ (fun _ h => h.sp (fun a => by simp -failIfUnchanged <;> omega)) (fun e he => Or.symm ((ownA (ownN hX93) (ownA (ownN hX99) (ownN hX105))) e he))
    refine TE_l rfl rfl trivial rfl (RD.load (i := 0) (v := xe) Try.isAgg23 rfl rfl rfl) rfl ?_
    refine TE_callG _ HX rfl rfl trivial Try.call22 rfl rfl rfl (fun w hw => c_cloneB HX xd x.data w (hw.sp (fun a => by simp -failIfUnchanged <;> omega)) ((Rdx.of_b hbxd).mono (fun _ hw => hw.sp (fun a => by simp -failIfUnchanged <;> omega))) (by first | assumption | omega | (simp; omega))) (fun a => by simp -failIfUnchanged <;> omega) ?_
    rintro v113 H114 ⟨st109, hbo110, rfl, rfl⟩ hX111
    have hRD112 : Rdx 1 (byteC) (bldMx 5 (byteC) x.data st109) (bldVx x.data st109) x.data := hbo110.rdx (u := 5) byteC_len
    refine TE_sp ((b1, .cells (objV x xd xe xp).cells 30 (0, 0)) :: (bldMx 5 (byteC) x.data st109)) (fun a => by simp -failIfUnchanged <;> omega) ?_
    refine TE_q rfl rfl (RD.fieldAddr (o := 1) Try.runUnderlying30 rfl rfl Try.sizeOf22 rfl) rfl ?_
    refine TE_callG _ HX rfl rfl trivial Try.call23 rfl rfl rfl (fun w hw => c_cloneE HX xe x.ents w (hw.sp (fun a => by simp -failIfUnchanged <;> omega)) (hbxe.mono (fun _ hw => hw.sp (fun a => by simp -failIfUnchanged <;> omega))) (by first | assumption | omega | (simp; omega))) (fun a => by simp -failIfUnchanged <;> omega) ?_
    rintro v119 H120 ⟨st115, hbo116, rfl, rfl⟩ hX117
    have hRD118 : Rdx 34 (entC) (bldMx 38 (entC) x.ents st115) (bldVx x.ents st115) x.ents := hbo116.rdx (u := 38) entC_len
    refine TE_sp ((b1, .cells (objV x xd xe xp).cells 30 (0, 0)) :: ((bldMx 38 (entC) x.ents st115) ++ (bldMx 5 (byteC) x.data st109))) (fun a => by simp -failIfUnchanged <;> omega) ?_
    refine TE_callG _ HX rfl rfl trivial Try.call24 rfl rfl rfl (fun w hw => c_cloneI HX xp x.pars w (hw.sp (fun a => by simp -failIfUnchanged <;> omega)) (hbxp.mono (fun _ hw => hw.sp (fun a => by simp -failIfUnchanged <;> omega))) (by first | assumption | omega | (simp; omega))) (fun a => by simp -failIfUnchanged <;> omega) ?_
    rintro v125 H126 ⟨st121, hbo122, rfl, rfl⟩ hX123
    have hRD124 : Rdx 32 (idC) (bldMx 25 (idC) x.pars st121) (bldVx x.pars st121) x.pars := hbo122.rdx (u := 25) idC_len
    refine TE_sp ((b1, .cells (objV x xd xe xp).cells 30 (0, 0)) :: ((bldMx 25 (idC) x.pars st121) ++ ((bldMx 38 (entC) x.ents st115) ++ (bldMx 5 (byteC) x.data st109)))) (fun a => by simp -failIfUnchanged <;> omega) ?_
    refine TE_storeC 0 (objV x xd xe xp).cells (objV x (bldVx x.data st109) xe xp).cells ((b1, .cells (objV x (bldVx x.data st109) xe xp).cells 30 (0, 0)) :: ((bldMx 25 (idC) x.pars st121) ++ ((bldMx 38 (entC) x.ents st115) ++ (bldMx 5 (byteC) x.data st109)))) rfl Try.sizeOf22 trivial rfl rfl (bvx_cells _ _) (bvx_one _ _) rfl rfl (put_obj_data _ _ _ _ _ _) rfl (.inl hb1) ?_
    refine TE_q rfl rfl (RD.fieldAddr (o := 2) Try.runUnderlying30 rfl rfl Try.sizeOf23 rfl) rfl ?_
    refine TE_storeC 0 (objV x (bldVx x.data st109) xe xp).cells (objV x (bldVx x.data st109) (bldVx x.ents st115) xp).cells ((b1, .cells (objV x (bldVx x.data st109) (bldVx x.ents st115) xp).cells 30 (0, 0)) :: ((bldMx 25 (idC) x.pars st121) ++ ((bldMx 38 (entC) x.ents st115) ++ (bldMx 5 (byteC) x.data st109)))) rfl Try.sizeOf23 trivial rfl rfl (bvx_cells _ _) (bvx_one _ _) rfl rfl (put_obj_ents _ _ _ _ _ _) rfl (.inl hb1) ?_
    refine TE_q rfl rfl (RD.fieldAddr (o := 35) Try.runUnderlying30 rfl rfl Try.sizeOf26 rfl) rfl ?_
    refine TE_storeC 0 (objV x (bldVx x.data st109) (bldVx x.ents st115) xp).cells (objV x (bldVx x.data st109) (bldVx x.ents st115) (bldVx x.pars st121)).cells ((b1, .cells (objV x (bldVx x.data st109) (bldVx x.ents st115) (bldVx x.pars st121)).cells 30 (0, 0)) :: ((bldMx 25 (idC) x.pars st121) ++ ((bldMx 38 (entC) x.ents st115) ++ (bldMx 5 (byteC) x.data st109)))) rfl Try.sizeOf26 trivial rfl rfl (bvx_cells _ _) (bvx_one _ _) rfl rfl (put_obj_pars _ _ _ _ _ _) rfl (.inl hb1) ?_
    refine TE_nil ?_
    refine pn_seq ?_
    refine pn_plainG [] ((b1, .cells (objV x (bldVx x.data st109) (bldVx x.ents st115) (bldVx x.pars st121)).cells 30 (0, 0)) :: (b2, .cells (objV (⟨0, [], [], (fun _ => 0), [], (⟨0, (fun _ => 0)⟩ : Lnk), ⟨#[]⟩⟩ : Ob) (.slice none 0 0) (.slice none 0 0) (.slice none 0 0)).cells 30 (0, 0)) :: ((bldMx 25 (idC) x.pars st121) ++ ((bldMx 38 (entC) x.ents st115) ++ (bldMx 5 (byteC) x.data st109)))) rfl (fun a => by simp -failIfUnchanged <;> omega) ?_
    refine TE_l rfl rfl trivial rfl (RD.loadA (i := 0) Try.isAgg30 Try.sizeOf30 rfl rfl (Nat.le_of_ble_eq_true rfl) (obj_all _ _ _ _)) rfl ?_
    refine TE_putCW 1 (objV (⟨0, [], [], (fun _ => 0), [], (⟨0, (fun _ => 0)⟩ : Lnk), ⟨#[]⟩⟩ : Ob) (.slice none 0 0) (.slice none 0 0) (.slice none 0 0)).cells (objV x (bldVx x.data st109) (bldVx x.ents st115) (bldVx x.pars st121)).cells ((b1, .cells (objV x (bldVx x.data st109) (bldVx x.ents st115) (bldVx x.pars st121)).cells 30 (0, 0)) :: (b2, .cells (objV x (bldVx x.data st109) (bldVx x.ents st115) (bldVx x.pars st121)).cells 30 (0, 0)) :: ((bldMx 25 (idC) x.pars st121) ++ ((bldMx 38 (entC) x.ents st115) ++ (bldMx 5 (byteC) x.data st109)))) rfl Try.sizeOf30 trivial rfl rfl rfl (objV_one _ _ _ _ (bvx_one _ _) (bvx_one _ _) (bvx_one _ _)) rfl rfl rfl rfl (.inl hb2) ?_
    refine TE_nil0 ?_
    refine pn_ret ?_
    exact pn_doneF rfl ⟨objV x (bldVx x.data st109) (bldVx x.ents st115) (bldVx x.pars st121), _, b2, 0, rfl, rfl, load_agg (i := 1) Try.isAgg30 Try.sizeOf30 rfl (Nat.le_of_ble_eq_true rfl) (obj_all _ _ _ _), rfl⟩ ⟨st109, st115, st121, hbo110, hbo116, hbo122, rfl, rfl⟩ (fun _ h => h.sp (fun a => by simp -failIfUnchanged <;> omega)) (fun e he => Or.symm ((ownA (ownN hX111) (ownA (ownN hX117) (ownN hX123))) e he))
  refine TE_fork ?_ ?_
  · refine TE_l rfl rfl trivial rfl (RD.load (i := 0) (v := xe) Try.isAgg23 rfl rfl rfl) rfl ?_
    refine TE_fork ?_ ?_
    · refine TE_l rfl rfl trivial rfl (RD.load (i := 0) (v := xd) Try.isAgg22 rfl rfl rfl) rfl ?_
      refine TE_fork ?_ ?_
      · refine TE_callG _ HX rfl rfl trivial Try.call22 rfl rfl rfl (fun w hw => c_cloneB HX xd x.data w (hw.sp (fun a => by simp -failIfUnchanged <;> omega)) ((Rdx.of_b hbxd).mono (fun _ hw => hw.sp (fun a => by simp -failIfUnchanged <;> omega))) (by first | assumption | omega | (simp; omega))) (fun a => by simp -failIfUnchanged <;> omega) ?_
        rintro v131 H132 ⟨st127, hbo128, rfl, rfl⟩ hX129
        have hRD130 : Rdx 1 (byteC) (bldMx 5 (byteC) x.data st127) (bldVx x.data st127) x.data := hbo128.rdx (u := 5) byteC_len
        refine TE_sp ((b1, .cells (objV x xd xe xp).cells 30 (0, 0)) :: (bldMx 5 (byteC) x.data st127)) (fun a => by simp -failIfUnchanged <;> omega) ?_
        refine TE_fork ?_ ?_
        · refine TE_callG _ HX rfl rfl trivial Try.call23 rfl rfl rfl (fun w hw => c_cloneE HX xe x.ents w (hw.sp (fun a => by simp -failIfUnchanged <;> omega)) (hbxe.mono (fun _ hw => hw.sp (fun a => by simp -failIfUnchanged <;> omega))) (by first | assumption | omega | (simp; omega))) (fun a => by simp -failIfUnchanged <;> omega) ?_
          rintro v137 H138 ⟨st133, hbo134, rfl, rfl⟩ hX135
          have hRD136 : Rdx 34 (entC) (bldMx 38 (entC) x.ents st133) (bldVx x.ents st133) x.ents := hbo134.rdx (u := 38) entC_len
          refine TE_sp ((b1, .cells (objV x xd xe xp).cells 30 (0, 0)) :: ((bldMx 38 (entC) x.ents st133) ++ (bldMx 5 (byteC) x.data st127))) (fun a => by simp -failIfUnchanged <;> omega) ?_
          refine TE_l rfl rfl trivial rfl (RD.load (i := 0) (v := xp) Try.isAgg26 rfl rfl rfl) rfl ?_
          refine TE_q rfl rfl (RD.fieldAddr (o := 1) Try.runUnderlying30 rfl rfl Try.sizeOf22 rfl) rfl ?_
          refine TE_callG _ HX rfl rfl trivial Try.call24 rfl rfl rfl (fun w hw => c_cloneI HX xp x.pars w (hw.sp (fun a => by simp -failIfUnchanged <;> omega)) (hbxp.mono (fun _ hw => hw.sp (fun a => by simp -failIfUnchanged <;> omega))) (by first | assumption | omega | (simp; omega))) (fun a => by simp -failIfUnchanged <;> omega) ?_
          rintro v143 H144 ⟨st139, hbo140, rfl, rfl⟩ hX141
          have hRD142 : Rdx 32 (idC) (bldMx 25 (idC) x.pars st139) (bldVx x.pars st139) x.pars := hbo140.rdx (u := 25) idC_len
          refine TE_sp ((b1, .cells (objV x xd xe xp).cells 30 (0, 0)) :: ((bldMx 25 (idC) x.pars st139) ++ ((bldMx 38 (entC) x.ents st133) ++ (bldMx 5 (byteC) x.data st127)))) (fun a => by simp -failIfUnchanged <;> omega) ?_
          refine TE_storeC 0 (objV x xd xe xp).cells (objV x (bldVx x.data st127) xe xp).cells ((b1, .cells (objV x (bldVx x.data st127) xe xp).cells 30 (0, 0)) :: ((bldMx 25 (idC) x.pars st139) ++ ((bldMx 38 (entC) x.ents st133) ++ (bldMx 5 (byteC) x.data st127)))) rfl Try.sizeOf22 trivial rfl rfl (bvx_cells _ _) (bvx_one _ _) rfl rfl (put_obj_data _ _ _ _ _ _) rfl (.inl hb1) ?_
          refine TE_q rfl rfl (RD.fieldAddr (o := 2) Try.runUnderlying30 rfl rfl Try.sizeOf23 rfl) rfl ?_
          refine TE_storeC 0 (objV x (bldVx x.data st127) xe xp).cells (objV x (bldVx x.data st127) (bldVx x.ents st133) xp).cells ((b1, .cells (objV x (bldVx x.data st127) (bldVx x.ents st133) xp).cells 30 (0, 0)) :: ((bldMx 25 (idC) x.pars st139) ++ ((bldMx 38 (entC) x.ents st133) ++ (bldMx 5 (byteC) x.data st127)))) rfl Try.sizeOf23 trivial rfl rfl (bvx_cells _ _) (bvx_one _ _) rfl rfl (put_obj_ents _ _ _ _ _ _) rfl (.inl hb1) ?_
          refine TE_q rfl rfl (RD.fieldAddr (o := 35) Try.runUnderlying30 rfl rfl Try.sizeOf26 rfl) rfl ?_
          refine TE_storeC 0 (objV x (bldVx x.data st127) (bldVx x.ents st133) xp).cells (objV x (bldVx x.data st127) (bldVx x.ents st133) (bldVx x.pars st139)).cells ((b1, .cells (objV x (bldVx x.data st127) (bldVx x.ents st133) (bldVx x.pars st139)).cells 30 (0, 0)) :: ((bldMx 25 (idC) x.pars st139) ++ ((bldMx 38 (entC) x.ents st133) ++ (bldMx 5 (byteC) x.data st127)))) rfl Try.sizeOf26 trivial rfl rfl (bvx_cells _ _) (bvx_one _ _) rfl rfl (put_obj_pars _ _ _ _ _ _) rfl (.inl hb1) ?_
          refine TE_nil ?_
          refine pn_seq ?_
          refine pn_plainG [] ((b1, .cells (objV x (bldVx x.data st127) (bldVx x.ents st133) (bldVx x.pars st139)).cells 30 (0, 0)) :: (b2, .cells (objV (⟨0, [], [], (fun _ => 0), [], (⟨0, (fun _ => 0)⟩ : Lnk), ⟨#[]⟩⟩ : Ob) (.slice none 0 0) (.slice none 0 0) (.slice none 0 0)).cells 30 (0, 0)) :: ((bldMx 25 (idC) x.pars st139) ++ ((bldMx 38 (entC) x.ents st133) ++ (bldMx 5 (byteC) x.data st127)))) rfl (fun a => by simp -failIfUnchanged <;> omega) ?_
          refine TE_l rfl rfl trivial rfl (RD.loadA (i := 0) Try.isAgg30 Try.sizeOf30 rfl rfl (Nat.le_of_ble_eq_true rfl) (obj_all _ _ _ _)) rfl ?_
          refine TE_putCW 1 (objV (⟨0, [], [], (fun _ => 0), [], (⟨0, (fun _ => 0)⟩ : Lnk), ⟨#[]⟩⟩ : Ob) (.slice none 0 0) (.slice none 0 0) (.slice none 0 0)).cells (objV x (bldVx x.data st127) (bldVx x.ents st133) (bldVx x.pars st139)).cells ((b1, .cells (objV x (bldVx x.data st127) (bldVx x.ents st133) (bldVx x.pars st139)).cells 30 (0, 0)) :: (b2, .cells (objV x (bldVx x.data st127) (bldVx x.ents st133) (bldVx x.pars st139)).cells 30 (0, 0)) :: ((bldMx 25 (idC) x.pars st139) ++ ((bldMx 38 (entC) x.ents st133) ++ (bldMx 5 (byteC) x.data st127)))) rfl Try.sizeOf30 trivial rfl rfl rfl (objV_one _ _ _ _ (bvx_one _ _) (bvx_one _ _) (bvx_one _ _)) rfl rfl rfl rfl (.inl hb2) ?_
          refine TE_nil0 ?_
          refine pn_ret ?_
          exact pn_doneF rfl ⟨objV x (bldVx x.data st127) (bldVx x.ents st133) (bldVx x.pars st139), _, b2, 0, rfl, rfl, load_agg (i := 1) Try.isAgg30 Try.sizeOf30 rfl (Nat.le_of_ble_eq_true rfl) (obj_all _ _ _ _), rfl⟩ ⟨st127, st133, st139, hbo128, hbo134, hbo140, rfl, rfl⟩ (fun _ h => h.sp (fun a => by simp -failIfUnchanged <;> omega)) (fun e he => Or.symm ((ownA (ownN hX129) (ownA (ownN hX135) (ownN hX141))) e he))
        refine TE_l rfl rfl trivial rfl (RD.load (i := 0) (v := xp) Try.isAgg26 rfl rfl rfl) rfl ?_
        refine TE_q rfl rfl (RD.fieldAddr (o := 1) Try.runUnderlying30 rfl rfl Try.sizeOf22 rfl) rfl ?_
        refine TE_callG _ HX rfl rfl trivial Try.call23 rfl rfl rfl (fun w hw => c_cloneE HX xe x.ents w (hw.sp (fun a => by simp -failIfUnchanged <;> omega)) (hbxe.mono (fun _ hw => hw.sp (fun a => by simp -failIfUnchanged <;> omega))) (by first | assumption | omega | (simp; omega))) (fun a => by simp -failIfUnchanged <;> omega) ?_
        rintro v149 H150 ⟨st145, hbo146, rfl, rfl⟩ hX147
        have hRD148 : Rdx 34 (entC) (bldMx 38 (entC) x.ents st145) (bldVx x.ents st145) x.ents := hbo146.rdx (u := 38) entC_len
        refine TE_sp ((b1, .cells (objV x xd xe xp).cells 30 (0, 0)) :: ((bldMx 38 (entC) x.ents st145) ++ (bldMx 5 (byteC) x.data st127))) (fun a => by simp -failIfUnchanged <;> omega) ?_
        refine TE_callG _ HX rfl rfl trivial Try.call24 rfl rfl rfl (fun w hw => c_cloneI HX xp x.pars w (hw.sp (fun a => by simp -failIfUnchanged <;> omega)) (hbxp.mono (fun _ hw => hw.sp (fun a => by simp -failIfUnchanged <;> omega))) (by first | assumption | omega | (simp; omega))) (fun a => by simp -failIfUnchanged <;> omega) ?_
        rintro v155 H156 ⟨st151, hbo152, rfl, rfl⟩ hX153
        have hRD154 : Rdx 32 (idC) (bldMx 25 (idC) x.pars st151) (bldVx x.pars st151) x.pars := hbo152.rdx (u := 25) idC_len
        refine TE_sp ((b1, .cells (objV x xd xe xp).cells 30 (0, 0)) :: ((bldMx 25 (idC) x.pars st151) ++ ((bldMx 38 (entC) x.ents st145) ++ (bldMx 5 (byteC) x.data st127)))) (fun a => by simp -failIfUnchanged <;> omega) ?_
        refine TE_storeC 0 (objV x xd xe xp).cells (objV x (bldVx x.data st127) xe xp).cells ((b1, .cells (objV x (bldVx x.data st127) xe xp).cells 30 (0, 0)) :: ((bldMx 25 (idC) x.pars st151) ++ ((bldMx 38 (entC) x.ents st145) ++ (bldMx 5 (byteC) x.data st127)))) rfl Try.sizeOf22 trivial rfl rfl (bvx_cells _ _) (bvx_one _ _) rfl rfl (put_obj_data _ _ _ _ _ _) rfl (.inl hb1) ?_
        refine TE_q rfl rfl (RD.fieldAddr (o := 2) Try.runUnderlying30 rfl rfl Try.sizeOf23 rfl) rfl ?_
        refine TE_storeC 0 (objV x (bldVx x.data st127) xe xp).cells (objV x (bldVx x.data st127) (bldVx x.ents st145) xp).cells ((b1, .cells (objV x (bldVx x.data st127) (bldVx x.ents st145) xp).cells 30 (0, 0)) :: ((bldMx 25 (idC) x.pars st151) ++ ((bldMx 38 (entC) x.ents st145) ++ (bldMx 5 (byteC) x.data st127)))) rfl Try.sizeOf23 trivial rfl rfl (bvx_cells _ _) (bvx_one _ _) rfl rfl (put_obj_ents _ _ _ _ _ _) rfl (.inl hb1) ?_
        refine TE_q rfl rfl (RD.fieldAddr (o := 35) Try.runUnderlying30 rfl rfl Try.sizeOf26 rfl) rfl ?_
        refine TE_storeC 0 (objV x (bldVx x.data st127) (bldVx x.ents st145) xp).cells (objV x (bldVx x.data st127) (bldVx x.ents st145) (bldVx x.pars st151)).cells ((b1, .cells (objV x (bldVx x.data st127) (bldVx x.ents st145) (bldVx x.pars st151)).cells 30 (0, 0)) :: ((bldMx 25 (idC) x.pars st151) ++ ((bldMx 38 (entC) x.ents st145) ++ (bldMx 5 (byteC) x.data st127)))) rfl Try.sizeOf26 trivial rfl rfl (bvx_cells _ _) (bvx_one _ _) rfl rfl (put_obj_pars _ _ _ _ _ _) rfl (.inl hb1) ?_
        refine TE_nil ?_
        refine pn_seq ?_
        refine pn_plainG [] ((b1, .cells (objV x (bldVx x.data st127) (bldVx x.ents st145) (bldVx x.pars st151)).cells 30 (0, 0)) :: (b2, .cells (objV (⟨0, [], [], (fun _ => 0), [], (⟨0, (fun _ => 0)⟩ : Lnk), ⟨#[]⟩⟩ : Ob) (.slice none 0 0) (.slice none 0 0) (.slice none 0 0)).cells 30 (0, 0)) :: ((bldMx 25 (idC) x.pars st151) ++ ((bldMx 38 (entC) x.ents st145) ++ (bldMx 5 (byteC) x.data st127)))) rfl (fun a => by simp -failIfUnchanged <;> omega) ?_
        refine TE_l rfl rfl trivial rfl (RD.loadA (i := 0) Try.isAgg30 Try.sizeOf30 rfl rfl (Nat.le_of_ble_eq_true rfl) (obj_all _ _ _ _)) rfl ?_
        refine TE_putCW 1 (objV (⟨0, [], [], (fun _ => 0), [], (⟨0, (fun _ => 0)⟩ : Lnk), ⟨#[]⟩⟩ : Ob) (.slice none 0 0) (.slice none 0 0) (.slice none 0 0)).cells (objV x (bldVx x.data st127) (bldVx x.ents st145) (bldVx x.pars st151)).cells ((b1, .cells (objV x (bldVx x.data st127) (bldVx x.ents st145) (bldVx x.pars st151)).cells 30 (0, 0)) :: (b2, .cells (objV x (bldVx x.data st127) (bldVx x.ents st145) (bldVx x.pars st151)).cells 30 (0, 0)) :: ((bldMx 25 (idC) x.pars st151) ++ ((bldMx 38 (entC) x.ents st145) ++ (bldMx 5 (byteC) x.data st127)))) rfl Try.sizeOf30 trivial rfl rfl rfl (objV_one _ _ _ _ (bvx_one _ _) (bvx_one _ _) (bvx_one _ _)) rfl rfl rfl rfl (.inl hb2) ?_
        refine TE_nil0 ?_
        refine pn_ret ?_
        exact pn_doneF rfl ⟨objV x (bldVx x.data st127) (bldVx x.ents st145) (bldVx x.pars st151), _, b2, 0, rfl, rfl, load_agg (i := 1) Try.isAgg30 Try.sizeOf30 rfl (Nat.le_of_ble_eq_true rfl) (obj_all _ _ _ _), rfl⟩ ⟨st127, st145, st151, hbo128, hbo146, hbo152, rfl, rfl⟩ (fun _ h => h.sp (fun a => by simp -failIfUnchanged <;> omega)) (fun e he => Or.symm ((ownA (ownN hX129) (ownA (ownN hX147) (ownN hX153))) e he))
      refine TE_l rfl rfl trivial rfl (RD.load (i := 0) (v := xp) Try.isAgg26 rfl rfl rfl) rfl ?_
      refine TE_callG _ HX rfl rfl trivial Try.call22 rfl rfl rfl (fun w hw => c_cloneB HX xd x.data w (hw.sp (fun a => by simp -failIfUnchanged <;> omega)) ((Rdx.of_b hbxd).mono (fun _ hw => hw.sp (fun a => by simp -failIfUnchanged <;> omega))) (by first | assumption | omega | (simp; omega))) (fun a => by simp -failIfUnchanged <;> omega) ?_
      rintro v161 H162 ⟨st157, hbo158, rfl, rfl⟩ hX159
      have hRD160 : Rdx 1 (byteC) (bldMx 5 (byteC) x.data st157) (bldVx x.data st157) x.data := hbo158.rdx (u := 5) byteC_len
      refine TE_sp ((b1, .cells (objV x xd xe xp).cells 30 (0, 0)) :: (bldMx 5 (byteC) x.data st157)) (fun a => by simp -failIfUnchanged <;> omega) ?_
      refine TE_q rfl rfl (RD.fieldAddr (o := 1) Try.runUnderlying30 rfl rfl Try.sizeOf22 rfl) rfl ?_
      refine TE_callG _ HX rfl rfl trivial Try.call23 rfl rfl rfl (fun w hw => c_cloneE HX xe x.ents w (hw.sp (fun a => by simp -failIfUnchanged <;> omega)) (hbxe.mono (fun _ hw => hw.sp (fun a => by simp -failIfUnchanged <;> omega))) (by first | assumption | omega | (simp; omega))) (fun a => by simp -failIfUnchanged <;> omega) ?_
      rintro v167 H168 ⟨st163, hbo164, rfl, rfl⟩ hX165
      have hRD166 : Rdx 34 (entC) (bldMx 38 (entC) x.ents st163) (bldVx x.ents st163) x.ents := hbo164.rdx (u := 38) entC_len
      refine TE_sp ((b1, .cells (objV x xd xe xp).cells 30 (0, 0)) :: ((bldMx 38 (entC) x.ents st163) ++ (bldMx 5 (byteC) x.data st157))) (fun a => by simp -failIfUnchanged <;> omega) ?_
      refine TE_callG _ HX rfl rfl trivial Try.call24 rfl rfl rfl (fun w hw => c_cloneI HX xp x.pars w (hw.sp (fun a => by simp -failIfUnchanged <;> omega)) (hbxp.mono (fun _ hw => hw.sp (fun a => by simp -failIfUnchanged <;> omega))) (by first | assumption | omega | (simp; omega))) (fun a => by simp -failIfUnchanged <;> omega) ?_
      rintro v173 H174 ⟨st169, hbo170, rfl, rfl⟩ hX171
      have hRD172 : Rdx 32 (idC) (bldMx 25 (idC) x.pars st169) (bldVx x.pars st169) x.pars := hbo170.rdx (u := 25) idC_len
      refine TE_sp ((b1, .cells (objV x xd xe xp).cells 30 (0, 0)) :: ((bldMx 25 (idC) x.pars st169) ++ ((bldMx 38 (entC) x.ents st163) ++ (bldMx 5 (byteC) x.data st157)))) (fun a => by simp -failIfUnchanged <;> omega) ?_
      refine TE_storeC 0 (objV x xd xe xp).cells (objV x (bldVx x.data st157) xe xp).cells ((b1, .cells (objV x (bldVx x.data st157) xe xp).cells 30 (0, 0)) :: ((bldMx 25 (idC) x.pars st169) ++ ((bldMx 38 (entC) x.ents st163) ++ (bldMx 5 (byteC) x.data st157)))) rfl Try.sizeOf22 trivial rfl rfl (bvx_cells _ _) (bvx_one _ _) rfl rfl (put_obj_data _ _ _ _ _ _) rfl (.inl hb1) ?_
      refine TE_q rfl rfl (RD.fieldAddr (o := 2) Try.runUnderlying30 rfl rfl Try.sizeOf23 rfl) rfl ?_
      refine TE_storeC 0 (objV x (bldVx x.data st157) xe xp).cells (objV x (bldVx x.data st157) (bldVx x.ents st163) xp).cells ((b1, .cells (objV x (bldVx x.data st157) (bldVx x.ents st163) xp).cells 30 (0, 0)) :: ((bldMx 25 (idC) x.pars st169) ++ ((bldMx 38 (entC) x.ents st163) ++ (bldMx 5 (byteC) x.data st157)))) rfl Try.sizeOf23 trivial rfl rfl (bvx_cells _ _) (bvx_one _ _) rfl rfl (put_obj_ents _ _ _ _ _ _) rfl (.inl hb1) ?_
      refine TE_q rfl rfl (RD.fieldAddr (o := 35) Try.runUnderlying30 rfl rfl Try.sizeOf26 rfl) rfl ?_
      refine TE_storeC 0 (objV x (bldVx x.data st157) (bldVx x.ents st163) xp).cells (objV x (bldVx x.data st157) (bldVx x.ents st163) (bldVx x.pars st169)).cells ((b1, .cells (objV x (bldVx x.data st157) (bldVx x.ents st163) (bldVx x.pars st169)).cells 30 (0, 0)) :: ((bldMx 25 (idC) x.pars st169) ++ ((bldMx 38 (entC) x.ents st163) ++ (bldMx 5 (byteC) x.data st157)))) rfl Try.sizeOf26 trivial rfl rfl (bvx_cells _ _) (bvx_one _ _) rfl rfl (put_obj_pars _ _ _ _ _ _) rfl (.inl hb1) ?_
      refine TE_nil ?_
      refine pn_seq ?_
      refine pn_plainG [] ((b1, .cells (objV x (bldVx x.data st157) (bldVx x.ents st163) (bldVx x.pars st169)).cells 30 (0, 0)) :: (b2, .cells (objV (⟨0, [], [], (fun _ => 0), [], (⟨0, (fun _ => 0)⟩ : Lnk), ⟨#[]⟩⟩ : Ob) (.slice none 0 0) (.slice none 0 0) (.slice none 0 0)).cells 30 (0, 0)) :: ((bldMx 25 (idC) x.pars st169) ++ ((bldMx 38 (entC) x.ents st163) ++ (bldMx 5 (byteC) x.data st157)))) rfl (fun a => by simp -failIfUnchanged <;> omega) ?_
      refine TE_l rfl rfl trivial rfl (RD.loadA (i := 0) Try.isAgg30 Try.sizeOf30 rfl rfl (Nat.le_of_ble_eq_true rfl) (obj_all _ _ _ _)) rfl ?_
      refine TE_putCW 1 (objV (⟨0, [], [], (fun _ => 0), [], (⟨0, (fun _ => 0)⟩ : Lnk), ⟨#[]⟩⟩ : Ob) (.slice none 0 0) (.slice none 0 0) (.slice none 0 0)).cells (objV x (bldVx x.data st157) (bldVx x.ents st163) (bldVx x.pars st169)).cells ((b1, .cells (objV x (bldVx x.data st157) (bldVx x.ents st163) (bldVx x.pars st169)).cells 30 (0, 0)) :: (b2, .cells (objV x (bldVx x.data st157) (bldVx x.ents st163) (bldVx x.pars st169)).cells 30 (0, 0)) :: ((bldMx 25 (idC) x.pars st169) ++ ((bldMx 38 (entC) x.ents st163) ++ (bldMx 5 (byteC) x.data st157)))) rfl Try.sizeOf30 trivial rfl rfl rfl (objV_one _ _ _ _ (bvx_one _ _) (bvx_one _ _) (bvx_one _ _)) rfl rfl rfl rfl (.inl hb2) ?_
      refine TE_nil0 ?_
      refine pn_ret ?_
      exact pn_doneF rfl ⟨objV x (bldVx x.data st157) (bldVx x.ents st163) (bldVx x.pars st169), _, b2, 0, rfl, rfl, load_agg (i := 1) Try.isAgg30 Try.sizeOf30 rfl (Nat.le_of_ble_eq_true rfl) (obj_all _ _ _ _), rfl⟩ ⟨st157, st163, st169, hbo158, hbo164, hbo170, rfl, rfl⟩ (fun _ h => h.sp (fun a => by simp -failIfUnchanged <;> omega)) (fun e he => Or.symm ((ownA (ownN hX159) (ownA (ownN hX165) (ownN hX171))) e he))
    refine TE_l rfl rfl trivial rfl (RD.load (i := 0) (v := xp) Try.isAgg26 rfl rfl rfl) rfl ?_
    refine TE_l rfl rfl trivial rfl (RD.load (i := 0) (v := xd) Try.isAgg22 rfl rfl rfl) rfl ?_
    refine TE_callG _ HX rfl rfl trivial Try.call22 rfl rfl rfl (fun w hw => c_cloneB HX xd x.data w (hw.sp (fun a => by simp -failIfUnchanged <;> omega)) ((Rdx.of_b hbxd).mono (fun _ hw => hw.sp (fun a => by simp -failIfUnchanged <;> omega))) (by first | assumption | omega | (simp; omega))) (fun a => by simp -failIfUnchanged <;> omega) ?_
    rintro v179 H180 ⟨st175, hbo176, rfl, rfl⟩ hX177
    have hRD178 : Rdx 1 (byteC) (bldMx 5 (byteC) x.data st175) (bldVx x.data st175) x.data := hbo176.rdx (u := 5) byteC_len
    refine TE_sp ((b1, .cells (objV x xd xe xp).cells 30 (0, 0)) :: (bldMx 5 (byteC) x.data st175)) (fun a => by simp -failIfUnchanged <;> omega) ?_
    refine TE_q rfl rfl (RD.fieldAddr (o := 1) Try.runUnderlying30 rfl rfl Try.sizeOf22 rfl) rfl ?_
    refine TE_callG _ HX rfl rfl trivial Try.call23 rfl rfl rfl (fun w hw => c_cloneE HX xe x.ents w (hw.sp (fun a => by simp -failIfUnchanged <;> omega)) (hbxe.mono (fun _ hw => hw.sp (fun a => by simp -failIfUnchanged <;> omega))) (by first | assumption | omega | (simp; omega))) (fun a => by simp -failIfUnchanged <;> omega) ?_
    rintro v185 H186 ⟨st181, hbo182, rfl, rfl⟩ hX183
    have hRD184 : Rdx 34 (entC) (bldMx 38 (entC) x.ents st181) (bldVx x.ents st181) x.ents := hbo182.rdx (u := 38) entC_len
    refine TE_sp ((b1, .cells (objV x xd xe xp).cells 30 (0, 0)) :: ((bldMx 38 (entC) x.ents st181) ++ (bldMx 5 (byteC) x.data st175))) (fun a => by simp -failIfUnchanged <;> omega) ?_
    refine TE_callG _ HX rfl rfl trivial Try.call24 rfl rfl rfl (fun w hw => c_cloneI HX xp x.pars w (hw.sp (fun a => by simp -failIfUnchanged <;> omega)) (hbxp.mono (fun _ hw => hw.sp (fun a => by simp -failIfUnchanged <;> omega))) (by first | assumption | omega | (simp; omega))) (fun a => by simp -failIfUnchanged <;> omega) ?_
    rintro v191 H192 ⟨st187, hbo188, rfl, rfl⟩ hX189
    have hRD190 : Rdx 32 (idC) (bldMx 25 (idC) x.pars st187) (bldVx x.pars st187) x.pars := hbo188.rdx (u := 25) idC_len
    refine TE_sp ((b1, .cells (objV x xd xe xp).cells 30 (0, 0)) :: ((bldMx 25 (idC) x.pars st187) ++ ((bldMx 38 (entC) x.ents st181) ++ (bldMx 5 (byteC) x.data st175)))) (fun a => by simp -failIfUnchanged <;> omega) ?_
    refine TE_storeC 0 (objV x xd xe xp).cells (objV x (bldVx x.data st175) xe xp).cells ((b1, .cells (objV x (bldVx x.data st175) xe xp).cells 30 (0, 0)) :: ((bldMx 25 (idC) x.pars st187) ++ ((bldMx 38 (entC) x.ents st181) ++ (bldMx 5 (byteC) x.data st175)))) rfl Try.sizeOf22 trivial rfl rfl (bvx_cells _ _) (bvx_one _ _) rfl rfl (put_obj_data _ _ _ _ _ _) rfl (.inl hb1) ?_
    refine TE_q rfl rfl (RD.fieldAddr (o := 2) Try.runUnderlying30 rfl rfl Try.sizeOf23 rfl) rfl ?_
    refine TE_storeC 0 (objV x (bldVx x.data st175) xe xp).cells (objV x (bldVx x.data st175) (bldVx x.ents st181) xp).cells ((b1, .cells (objV x (bldVx x.data st175) (bldVx x.ents st181) xp).cells 30 (0, 0)) :: ((bldMx 25 (idC) x.pars st187) ++ ((bldMx 38 (entC) x.ents st181) ++ (bldMx 5 (byteC) x.data st175)))) rfl Try.sizeOf23 trivial rfl rfl (bvx_cells _ _) (bvx_one _ _) rfl rfl (put_obj_ents _ _ _ _ _ _) rfl (.inl hb1) ?_
    refine TE_q rfl rfl (RD.fieldAddr (o := 35) Try.runUnderlying30 rfl rfl Try.sizeOf26 rfl) rfl ?_
    refine TE_storeC 0 (objV x (bldVx x.data st175) (bldVx x.ents st181) xp).cells (objV x (bldVx x.data st175) (bldVx x.ents st181) (bldVx x.pars st187)).cells ((b1, .cells (objV x (bldVx x.data st175) (bldVx x.ents st181) (bldVx x.pars st187)).cells 30 (0, 0)) :: ((bldMx 25 (idC) x.pars st187) ++ ((bldMx 38 (entC) x.ents st181) ++ (bldMx 5 (byteC) x.data st175)))) rfl Try.sizeOf26 trivial rfl rfl (bvx_cells _ _) (bvx_one _ _) rfl rfl (put_obj_pars _ _ _ _ _ _) rfl (.inl hb1) ?_
    refine TE_nil ?_
    refine pn_seq ?_
    refine pn_plainG [] ((b1, .cells (objV x (bldVx x.data st175) (bldVx x.ents st181) (bldVx x.pars st187)).cells 30 (0, 0)) :: (b2, .cells (objV (⟨0, [], [], (fun _ => 0), [], (⟨0, (fun _ => 0)⟩ : Lnk), ⟨#[]⟩⟩ : Ob) (.slice none 0 0) (.slice none 0 0) (.slice none 0 0)).cells 30 (0, 0)) :: ((bldMx 25 (idC) x.pars st187) ++ ((bldMx 38 (entC) x.ents st181) ++ (bldMx 5 (byteC) x.data st175)))) rfl (fun a => by simp -failIfUnchanged <;> omega) ?_
    refine TE_l rfl rfl trivial rfl (RD.loadA (i := 0) Try.isAgg30 Try.sizeOf30 rfl rfl (Nat.le_of_ble_eq_true rfl) (obj_all _ _ _ _)) rfl ?_
    refine TE_putCW 1 (objV (⟨0, [], [], (fun _ => 0), [], (⟨0, (fun _ => 0)⟩ : Lnk), ⟨#[]⟩⟩ : Ob) (.slice none 0 0) (.slice none 0 0) (.slice none 0 0)).cells (objV x (bldVx x.data st175) (bldVx x.ents st181) (bldVx x.pars st187)).cells ((b1, .cells (objV x (bldVx x.data st175) (bldVx x.ents st181) (bldVx x.pars st187)).cells 30 (0, 0)) :: (b2, .cells (objV x (bldVx x.data st175) (bldVx x.ents st181) (bldVx x.pars st187)).cells 30 (0, 0)) :: ((bldMx 25 (idC) x.pars st187) ++ ((bldMx 38 (entC) x.ents st181) ++ (bldMx 5 (byteC) x.data st175)))) rfl Try.sizeOf30 trivial rfl rfl rfl (objV_one _ _ _ _ (bvx_one _ _) (bvx_one _ _) (bvx_one _ _)) rfl rfl rfl rfl (.inl hb2) ?_
    refine TE_nil0 ?_
    refine pn_ret ?_
    exact pn_doneF rfl ⟨objV x (bldVx x.data st175) (bldVx x.ents st181) (bldVx x.pars st187), _, b2, 0, rfl, rfl, load_agg (i := 1) Try.isAgg30 Try.sizeOf30 rfl (Nat.le_of_ble_eq_true rfl) (obj_all _ _ _ _), rfl⟩ ⟨st175, st181, st187, hbo176, hbo182, hbo188, rfl, rfl⟩ (fun _ h => h.sp (fun a => by simp -failIfUnchanged <;> omega)) (fun e he => Or.symm ((ownA (ownN hX177) (ownA (ownN hX183) (ownN hX189))) e he))
  refine TE_l rfl rfl trivial rfl (RD.load (i := 0) (v := xp) Try.isAgg26 rfl rfl rfl) rfl ?_
  refine TE_fork ?_ ?_
  · refine TE_l rfl rfl trivial rfl (RD.load (i := 0) (v := xd) Try.isAgg22 rfl rfl rfl) rfl ?_
    refine TE_fork ?_ ?_
    · refine TE_callG _ HX rfl rfl trivial Try.call22 rfl rfl rfl (fun w hw => c_cloneB HX xd x.data w (hw.sp (fun a => by simp -failIfUnchanged <;> omega)) ((Rdx.of_b hbxd).mono (fun _ hw => hw.sp (fun a => by simp -failIfUnchanged <;> omega))) (by first | assumption | omega | (simp; omega))) (fun a => by simp -failIfUnchanged <;> omega) ?_
      rintro v197 H198 ⟨st193, hbo194, rfl, rfl⟩ hX195
      have hRD196 : Rdx 1 (byteC) (bldMx 5 (byteC) x.data st193) (bldVx x.data st193) x.data := hbo194.rdx (u := 5) byteC_len
      refine TE_sp ((b1, .cells (objV x xd xe xp).cells 30 (0, 0)) :: (bldMx 5 (byteC) x.data st193)) (fun a => by simp -failIfUnchanged <;> omega) ?_
      refine TE_l rfl rfl trivial rfl (RD.load (i := 0) (v := xe) Try.isAgg23 rfl rfl rfl) rfl ?_
      refine TE_q rfl rfl (RD.fieldAddr (o := 1) Try.runUnderlying30 rfl rfl Try.sizeOf22 rfl) rfl ?_
      refine TE_callG _ HX rfl rfl trivial Try.call23 rfl rfl rfl (fun w hw => c_cloneE HX xe x.ents w (hw.sp (fun a => by simp -failIfUnchanged <;> omega)) (hbxe.mono (fun _ hw => hw.sp (fun a => by simp -failIfUnchanged <;> omega))) (by first | assumption | omega | (simp; omega))) (fun a => by simp -failIfUnchanged <;> omega) ?_
      rintro v203 H204 ⟨st199, hbo200, rfl, rfl⟩ hX201
      have hRD202 : Rdx 34 (entC) (bldMx 38 (entC) x.ents st199) (bldVx x.ents st199) x.ents := hbo200.rdx (u := 38) entC_len
      refine TE_sp ((b1, .cells (objV x xd xe xp).cells 30 (0, 0)) :: ((bldMx 38 (entC) x.ents st199) ++ (bldMx 5 (byteC) x.data st193))) (fun a => by simp -failIfUnchanged <;> omega) ?_
      refine TE_callG _ HX rfl rfl trivial Try.call24 rfl rfl rfl (fun w hw => c_cloneI HX xp x.pars w (hw.sp (fun a => by simp -failIfUnchanged <;> omega)) (hbxp.mono (fun _ hw => hw.sp (fun a => by simp -failIfUnchanged <;> omega))) (by first | assumption | omega | (simp; omega))) (fun a => by simp -failIfUnchanged <;> omega) ?_
      rintro v209 H210 ⟨st205, hbo206, rfl, rfl⟩ hX207
      have hRD208 : Rdx 32 (idC) (bldMx 25 (idC) x.pars st205) (bldVx x.pars st205) x.pars := hbo206.rdx (u := 25) idC_len
      refine TE_sp ((b1, .cells (objV x xd xe xp).cells 30 (0, 0)) :: ((bldMx 25 (idC) x.pars st205) ++ ((bldMx 38 (entC) x.ents st199) ++ (bldMx 5 (byteC) x.data st193)))) (fun a => by simp -failIfUnchanged <;> omega) ?_
      refine TE_storeC 0 (objV x xd xe xp).cells (objV x (bldVx x.data st193) xe xp).cells ((b1, .cells (objV x (bldVx x.data st193) xe xp).cells 30 (0, 0)) :: ((bldMx 25 (idC) x.pars st205) ++ ((bldMx 38 (entC) x.ents st199) ++ (bldMx 5 (byteC) x.data st193)))) rfl Try.sizeOf22 trivial rfl rfl (bvx_cells _ _) (bvx_one _ _) rfl rfl (put_obj_data _ _ _ _ _ _) rfl (.inl hb1) ?_
      refine TE_q rfl rfl (RD.fieldAddr (o := 2) Try.runUnderlying30 rfl rfl Try.sizeOf23 rfl) rfl ?_
      refine TE_storeC 0 (objV x (bldVx x.data st193) xe xp).cells (objV x (bldVx x.data st193) (bldVx x.ents st199) xp).cells ((b1, .cells (objV x (bldVx x.data st193) (bldVx x.ents st199) xp).cells 30 (0, 0)) :: ((bldMx 25 (idC) x.pars st205) ++ ((bldMx 38 (entC) x.ents st199) ++ (bldMx 5 (byteC) x.data st193)))) rfl Try.sizeOf23 trivial rfl rfl (bvx_cells _ _) (bvx_one _ _) rfl rfl (put_obj_ents _ _ _ _ _ _) rfl (.inl hb1) ?_
      refine TE_q rfl rfl (RD.fieldAddr (o := 35) Try.runUnderlying30 rfl rfl Try.sizeOf26 rfl) rfl ?_
      refine TE_storeC 0 (objV x (bldVx x.data st193) (bldVx x.ents st199) xp).cells (objV x (bldVx x.data st193) (bldVx x.ents st199) (bldVx x.pars st205)).cells ((b1, .cells (objV x (bldVx x.data st193) (bldVx x.ents st199) (bldVx x.pars st205)).cells 30 (0, 0)) :: ((bldMx 25 (idC) x.pars st205) ++ ((bldMx 38 (entC) x.ents st199) ++ (bldMx 5 (byteC) x.data st193)))) rfl Try.sizeOf26 trivial rfl rfl (bvx_cells _ _) (bvx_one _ _) rfl rfl (put_obj_pars _ _ _ _ _ _) rfl (.inl hb1) ?_
      refine TE_nil ?_
      refine pn_seq ?_
      refine pn_plainG [] ((b1, .cells (objV x (bldVx x.data st193) (bldVx x.ents st199) (bldVx x.pars st205)).cells 30 (0, 0)) :: (b2, .cells (objV (⟨0, [], [], (fun _ => 0), [], (⟨0, (fun _ => 0)⟩ : Lnk), ⟨#[]⟩⟩ : Ob) (.slice none 0 0) (.slice none 0 0) (.slice none 0 0)).cells 30 (0, 0)) :: ((bldMx 25 (idC) x.pars st205) ++ ((bldMx 38 (entC) x.ents st199) ++ (bldMx 5 (byteC) x.data st193)))) rfl (fun a => by simp -failIfUnchanged <;> omega) ?_
      refine TE_l rfl rfl trivial rfl (RD.loadA (i := 0) Try.isAgg30 Try.sizeOf30 rfl rfl (Nat.le_of_ble_eq_true rfl) (obj_all _ _ _ _)) rfl ?_
      refine TE_putCW 1 (objV (⟨0, [], [], (fun _ => 0), [], (⟨0, (fun _ => 0)⟩ : Lnk), ⟨#[]⟩⟩ : Ob) (.slice none 0 0) (.slice none 0 0) (.slice none 0 0)).cells (objV x (bldVx x.data st193) (bldVx x.ents st199) (bldVx x.pars st205)).cells ((b1, .cells (objV x (bldVx x.data st193) (bldVx x.ents st199) (bldVx x.pars st205)).cells 30 (0, 0)) :: (b2, .cells (objV x (bldVx x.data st193) (bldVx x.ents st199) (bldVx x.pars st205)).cells 30 (0, 0)) :: ((bldMx 25 (idC) x.pars st205) ++ ((bldMx 38 (entC) x.ents st199) ++ (bldMx 5 (byteC) x.data st193)))) rfl Try.sizeOf30 trivial rfl rfl rfl (objV_one _ _ _ _ (bvx_one _ _) (bvx_one _ _) (bvx_one _ _)) rfl rfl rfl rfl (.inl hb2) ?_
      refine TE_nil0 ?_
      refine pn_ret ?_
      exact pn_doneF rfl ⟨objV x (bldVx x.data st193) (bldVx x.ents st199) (bldVx x.pars st205), _, b2, 0, rfl, rfl, load_agg (i := 1) Try.isAgg30 Try.sizeOf30 rfl (Nat.le_of_ble_eq_true rfl) (obj_all _ _ _ _), rfl⟩ ⟨st193, st199, st205, hbo194, hbo200, hbo206, rfl, rfl⟩ (fun _ h => h.sp (fun a => by simp -failIfUnchanged <;> omega)) (fun e he => Or.symm ((ownA (ownN hX195) (ownA (ownN hX201) (ownN hX207))) e he))
    refine TE_l rfl rfl trivial rfl (RD.load (i := 0) (v := xe) Try.isAgg23 rfl rfl rfl) rfl ?_
    refine TE_callG _ HX rfl rfl trivial Try.call22 rfl rfl rfl (fun w hw => c_cloneB HX xd x.data w (hw.sp (fun a => by simp -failIfUnchanged <;> omega)) ((Rdx.of_b hbxd).mono (fun _ hw => hw.sp (fun a => by simp -failIfUnchanged <;> omega))) (by first | assumption | omega | (simp; omega))) (fun a => by simp -failIfUnchanged <;> omega) ?_
    rintro v215 H216 ⟨st211, hbo212, rfl, rfl⟩ hX213
    have hRD214 : Rdx 1 (byteC) (bldMx 5 (byteC) x.data st211) (bldVx x.data st211) x.data := hbo212.rdx (u := 5) byteC_len
    refine TE_sp ((b1, .cells (objV x xd xe xp).cells 30 (0, 0)) :: (bldMx 5 (byteC) x.data st211)) (fun a => by simp -failIfUnchanged <;> omega) ?_
    refine TE_q rfl rfl (RD.fieldAddr (o := 1) Try.runUnderlying30 rfl rfl Try.sizeOf22 rfl) rfl ?_
    refine TE_callG _ HX rfl rfl trivial Try.call23 rfl rfl rfl (fun w hw => c_cloneE HX xe x.ents w (hw.sp (fun a => by simp -failIfUnchanged <;> omega)) (hbxe.mono (fun _ hw => hw.sp (fun a => by simp -failIfUnchanged <;> omega))) (by first | assumption | omega | (simp; omega))) (fun a => by simp -failIfUnchanged <;> omega) ?_
    rintro v221 H222 ⟨st217, hbo218, rfl, rfl⟩ hX219
    have hRD220 : Rdx 34 (entC) (bldMx 38 (entC) x.ents st217) (bldVx x.ents st217) x.ents := hbo218.rdx (u := 38) entC_len
    refine TE_sp ((b1, .cells (objV x xd xe xp).cells 30 (0, 0)) :: ((bldMx 38 (entC) x.ents st217) ++ (bldMx 5 (byteC) x.data st211))) (fun a => by simp -failIfUnchanged <;> omega) ?_
    refine TE_callG _ HX rfl rfl trivial Try.call24 rfl rfl rfl (fun w hw => c_cloneI HX xp x.pars w (hw.sp (fun a => by simp -failIfUnchanged <;> omega)) (hbxp.mono (fun _ hw => hw.sp (fun a => by simp -failIfUnchanged <;> omega))) (by first | assumption | omega | (simp; omega))) (fun a => by simp -failIfUnchanged <;> omega) ?_
    rintro v227 H228 ⟨st223, hbo224, rfl, rfl⟩ hX225
    have hRD226 : Rdx 32 (idC) (bldMx 25 (idC) x.pars st223) (bldVx x.pars st223) x.pars := hbo224.rdx (u := 25) idC_len
    refine TE_sp ((b1, .cells (objV x xd xe xp).cells 30 (0, 0)) :: ((bldMx 25 (idC) x.pars st223) ++ ((bldMx 38 (entC) x.ents st217) ++ (bldMx 5 (byteC) x.data st211)))) (fun a => by simp -failIfUnchanged <;> omega) ?_
    refine TE_storeC 0 (objV x xd xe xp).cells (objV x (bldVx x.data st211) xe xp).cells ((b1, .cells (objV x (bldVx x.data st211) xe xp).cells 30 (0, 0)) :: ((bldMx 25 (idC) x.pars st223) ++ ((bldMx 38 (entC) x.ents st217) ++ (bldMx 5 (byteC) x.data st211)))) rfl Try.sizeOf22 trivial rfl rfl (bvx_cells _ _) (bvx_one _ _) rfl rfl (put_obj_data _ _ _ _ _ _) rfl (.inl hb1) ?_
    refine TE_q rfl rfl (RD.fieldAddr (o := 2) Try.runUnderlying30 rfl rfl Try.sizeOf23 rfl) rfl ?_
    refine TE_storeC 0 (objV x (bldVx x.data st211) xe xp).cells (objV x (bldVx x.data st211) (bldVx x.ents st217) xp).cells ((b1, .cells (objV x (bldVx x.data st211) (bldVx x.ents st217) xp).cells 30 (0, 0)) :: ((bldMx 25 (idC) x.pars st223) ++ ((bldMx 38 (entC) x.ents st217) ++ (bldMx 5 (byteC) x.data st211)))) rfl Try.sizeOf23 trivial rfl rfl (bvx_cells _ _) (bvx_one _ _) rfl rfl (put_obj_ents _ _ _ _ _ _) rfl (.inl hb1) ?_
    refine TE_q rfl rfl (RD.fieldAddr (o := 35) Try.runUnderlying30 rfl rfl Try.sizeOf26 rfl) rfl ?_
    refine TE_storeC 0 (objV x (bldVx x.data st211) (bldVx x.ents st217) xp).cells (objV x (bldVx x.data st211) (bldVx x.ents st217) (bldVx x.pars st223)).cells ((b1, .cells (objV x (bldVx x.data st211) (bldVx x.ents st217) (bldVx x.pars st223)).cells 30 (0, 0)) :: ((bldMx 25 (idC) x.pars st223) ++ ((bldMx 38 (entC) x.ents st217) ++ (bldMx 5 (byteC) x.data st211)))) rfl Try.sizeOf26 trivial rfl rfl (bvx_cells _ _) (bvx_one _ _) rfl rfl (put_obj_pars _ _ _ _ _ _) rfl (.inl hb1) ?_
    refine TE_nil ?_
    refine pn_seq ?_
    refine pn_plainG [] ((b1, .cells (objV x (bldVx x.data st211) (bldVx x.ents st217) (bldVx x.pars st223)).cells 30 (0, 0)) :: (b2, .cells (objV (⟨0, [], [], (fun _ => 0), [], (⟨0, (fun _ => 0)⟩ : Lnk), ⟨#[]⟩⟩ : Ob) (.slice none 0 0) (.slice none 0 0) (.slice none 0 0)).cells 30 (0, 0)) :: ((bldMx 25 (idC) x.pars st223) ++ ((bldMx 38 (entC) x.ents st217) ++ (bldMx 5 (byteC) x.data st211)))) rfl (fun a => by simp -failIfUnchanged <;> omega) ?_
    refine TE_l rfl rfl trivial rfl (RD.loadA (i := 0) Try.isAgg30 Try.sizeOf30 rfl rfl (Nat.le_of_ble_eq_true rfl) (obj_all _ _ _ _)) rfl ?_
    refine TE_putCW 1 (objV (⟨0, [], [], (fun _ => 0), [], (⟨0, (fun _ => 0)⟩ : Lnk), ⟨#[]⟩⟩ : Ob) (.slice none 0 0) (.slice none 0 0) (.slice none 0 0)).cells (objV x (bldVx x.data st211) (bldVx x.ents st217) (bldVx x.pars st223)).cells ((b1, .cells (objV x (bldVx x.data st211) (bldVx x.ents st217) (bldVx x.pars st223)).cells 30 (0, 0)) :: (b2, .cells (objV x (bldVx x.data st211) (bldVx x.ents st217) (bldVx x.pars st223)).cells 30 (0, 0)) :: ((bldMx 25 (idC) x.pars st223) ++ ((bldMx 38 (entC) x.ents st217) ++ (bldMx 5 (byteC) x.data st211)))) rfl Try.sizeOf30 trivial rfl rfl rfl (objV_one _ _ _ _ (bvx_one _ _) (bvx_one _ _) (bvx_one _ _)) rfl rfl rfl rfl (.inl hb2) ?_
    refine TE_nil0 ?_
    refine pn_ret ?_
    exact pn_doneF rfl ⟨objV x (bldVx x.data st211) (bldVx x.ents st217) (bldVx x.pars st223), _, b2, 0, rfl, rfl, load_agg (i := 1) Try.isAgg30 Try.sizeOf30 rfl (Nat.le_of_ble_eq_true rfl) (obj_all _ _ _ _), rfl⟩ ⟨st211, st217, st223, hbo212, hbo218, hbo224, rfl, rfl⟩ (fun _ h => h.sp (fun a => by simp -failIfUnchanged <;> omega)) (fun e he => Or.symm ((ownA (ownN hX213) (ownA (ownN hX219) (ownN hX225))) e he))
  refine TE_l rfl rfl trivial rfl (RD.load (i := 0) (v := xe) Try.isAgg23 rfl rfl rfl) rfl ?_
  refine TE_l rfl rfl trivial rfl (RD.load (i := 0) (v := xd) Try.isAgg22 rfl rfl rfl) rfl ?_
  refine TE_callG _ HX rfl rfl trivial Try.call22 rfl rfl rfl (fun w hw => c_cloneB HX xd x.data w (hw.sp (fun a => by simp -failIfUnchanged <;> omega)) ((Rdx.of_b hbxd).mono (fun _ hw => hw.sp (fun a => by simp -failIfUnchanged <;> omega))) (by first | assumption | omega | (simp; omega))) (fun a => by simp -failIfUnchanged <;> omega) ?_
  rintro v233 H234 ⟨st229, hbo230, rfl, rfl⟩ hX231
  have hRD232 : Rdx 1 (byteC) (bldMx 5 (byteC) x.data st229) (bldVx x.data st229) x.data := hbo230.rdx (u := 5) byteC_len
  refine TE_sp ((b1, .cells (objV x xd xe xp).cells 30 (0, 0)) :: (bldMx 5 (byteC) x.data st229)) (fun a => by simp -failIfUnchanged <;> omega) ?_
  refine TE_q rfl rfl (RD.fieldAddr (o := 1) Try.runUnderlying30 rfl rfl Try.sizeOf22 rfl) rfl ?_
  refine TE_callG _ HX rfl rfl trivial Try.call23 rfl rfl rfl (fun w hw => c_cloneE HX xe x.ents w (hw.sp (fun a => by simp -failIfUnchanged <;> omega)) (hbxe.mono (fun _ hw => hw.sp (fun a => by simp -failIfUnchanged <;> omega))) (by first | assumption | omega | (simp; omega))) (fun a => by simp -failIfUnchanged <;> omega) ?_
  rintro v239 H240 ⟨st235, hbo236, rfl, rfl⟩ hX237
  have hRD238 : Rdx 34 (entC) (bldMx 38 (entC) x.ents st235) (bldVx x.ents st235) x.ents := hbo236.rdx (u := 38) entC_len
  refine TE_sp ((b1, .cells (objV x xd xe xp).cells 30 (0, 0)) :: ((bldMx 38 (entC) x.ents st235) ++ (bldMx 5 (byteC) x.data st229))) (fun a => by simp -failIfUnchanged <;> omega) ?_
  refine TE_callG _ HX rfl rfl trivial Try.call24 rfl rfl rfl (fun w hw => c_cloneI HX xp x.pars w (hw.sp (fun a => by simp -failIfUnchanged <;> omega)) (hbxp.mono (fun _ hw => hw.sp (fun a => by simp -failIfUnchanged <;> omega))) (by first | assumption | omega | (simp; omega))) (fun a => by simp -failIfUnchanged <;> omega) ?_
  rintro v245 H246 ⟨st241, hbo242, rfl, rfl⟩ hX243
  have hRD244 : Rdx 32 (idC) (bldMx 25 (idC) x.pars st241) (bldVx x.pars st241) x.pars := hbo242.rdx (u := 25) idC_len
  refine TE_sp ((b1, .cells (objV x xd xe xp).cells 30 (0, 0)) :: ((bldMx 25 (idC) x.pars st241) ++ ((bldMx 38 (entC) x.ents st235) ++ (bldMx 5 (byteC) x.data st229)))) (fun a => by simp -failIfUnchanged <;> omega) ?_
  refine TE_storeC 0 (objV x xd xe xp).cells (objV x (bldVx x.data st229) xe xp).cells ((b1, .cells (objV x (bldVx x.data st229) xe xp).cells 30 (0, 0)) :: ((bldMx 25 (idC) x.pars st241) ++ ((bldMx 38 (entC) x.ents st235) ++ (bldMx 5 (byteC) x.data st229)))) rfl Try.sizeOf22 trivial rfl rfl (bvx_cells _ _) (bvx_one _ _) rfl rfl (put_obj_data _ _ _ _ _ _) rfl (.inl hb1) ?_
  refine TE_q rfl rfl (RD.fieldAddr (o := 2) Try.runUnderlying30 rfl rfl Try.sizeOf23 rfl) rfl ?_
  refine TE_storeC 0 (objV x (bldVx x.data st229) xe xp).cells (objV x (bldVx x.data st229) (bldVx x.ents st235) xp).cells ((b1, .cells (objV x (bldVx x.data st229) (bldVx x.ents st235) xp).cells 30 (0, 0)) :: ((bldMx 25 (idC) x.pars st241) ++ ((bldMx 38 (entC) x.ents st235) ++ (bldMx 5 (byteC) x.data st229)))) rfl Try.sizeOf23 trivial rfl rfl (bvx_cells _ _) (bvx_one _ _) rfl rfl (put_obj_ents _ _ _ _ _ _) rfl (.inl hb1) ?_
  refine TE_q rfl rfl (RD.fieldAddr (o := 35) Try.runUnderlying30 rfl rfl Try.sizeOf26 rfl) rfl ?_
  refine TE_storeC 0 (objV x (bldVx x.data st229) (bldVx x.ents st235) xp).cells (objV x (bldVx x.data st229) (bldVx x.ents st235) (bldVx x.pars st241)).cells ((b1, .cells (objV x (bldVx x.data st229) (bldVx x.ents st235) (bldVx x.pars st241)).cells 30 (0, 0)) :: ((bldMx 25 (idC) x.pars st241) ++ ((bldMx 38 (entC) x.ents st235) ++ (bldMx 5 (byteC) x.data st229)))) rfl Try.sizeOf26 trivial rfl rfl (bvx_cells _ _) (bvx_one _ _) rfl rfl (put_obj_pars _ _ _ _ _ _) rfl (.inl hb1) ?_
  refine TE_nil ?_
  refine pn_seq ?_
  refine pn_plainG [] ((b1, .cells (objV x (bldVx x.data st229) (bldVx x.ents st235) (bldVx x.pars st241)).cells 30 (0, 0)) :: (b2, .cells (objV (⟨0, [], [], (fun _ => 0), [], (⟨0, (fun _ => 0)⟩ : Lnk), ⟨#[]⟩⟩ : Ob) (.slice none 0 0) (.slice none 0 0) (.slice none 0 0)).cells 30 (0, 0)) :: ((bldMx 25 (idC) x.pars st241) ++ ((bldMx 38 (entC) x.ents st235) ++ (bldMx 5 (byteC) x.data st229)))) rfl (fun a => by simp -failIfUnchanged <;> omega) ?_
  refine TE_l rfl rfl trivial rfl (RD.loadA (i := 0) Try.isAgg30 Try.sizeOf30 rfl rfl (Nat.le_of_ble_eq_true rfl) (obj_all _ _ _ _)) rfl ?_
  refine TE_putCW 1 (objV (⟨0, [], [], (fun _ => 0), [], (⟨0, (fun _ => 0)⟩ : Lnk), ⟨#[]⟩⟩ : Ob) (.slice none 0 0) (.slice none 0 0) (.slice none 0 0)).cells (objV x (bldVx x.data st229) (bldVx x.ents st235) (bldVx x.pars st241)).cells ((b1, .cells (objV x (bldVx x.data st229) (bldVx x.ents st235) (bldVx x.pars st241)).cells 30 (0, 0)) :: (b2, .cells (objV x (bldVx x.data st229) (bldVx x.ents st235) (bldVx x.pars st241)).cells 30 (0, 0)) :: ((bldMx 25 (idC) x.pars st241) ++ ((bldMx 38 (entC) x.ents st235) ++ (bldMx 5 (byteC) x.data st229)))) rfl Try.sizeOf30 trivial rfl rfl rfl (objV_one _ _ _ _ (bvx_one _ _) (bvx_one _ _) (bvx_one _ _)) rfl rfl rfl rfl (.inl hb2) ?_
  refine TE_nil0 ?_
  refine pn_ret ?_
  exact pn_doneF rfl ⟨objV x (bldVx x.data st229) (bldVx x.ents st235) (bldVx x.pars st241), _, b2, 0, rfl, rfl, load_agg (i := 1) Try.isAgg30 Try.sizeOf30 rfl (Nat.le_of_ble_eq_true rfl) (obj_all _ _ _ _), rfl⟩ ⟨st229, st235, st241, hbo230, hbo236, hbo242, rfl, rfl⟩ (fun _ h => h.sp (fun a => by simp -failIfUnchanged <;> omega)) (fun e he => Or.symm ((ownA (ownN hX231) (ownA (ownN hX237) (ownN hX243))) e he))

theorem c_twin7 (lv : Value) (l : List UInt8) (HX : Mem) (w : World) (hbl : Rdb HX lv l) (hll : l.length ≤ 1000000) (hH : Hp HX w) : Calls Try.prog 15 #[lv] w (Ret w [] fun v H1 => ∃ st, BldOk 1 (byteC) l st ∧ v = bldVx l st ∧ H1 = bldMx 5 (byteC) l st) := by
  refine fn_enter (args := [_]) Try.func15 rfl Try.ntmps15 rfl hH ?_
  refine pn_seq ?_
  refine pn_plain [] rfl ?_
  refine TE_q rfl rfl (RD.assign rfl) rfl ?_
  refine TE_nil0 ?_
  refine pn_seq ?_
  refine pn_plain [] rfl ?_
  refine TE_q rfl rfl (RD.assign rfl) rfl ?_
  refine TE_nil0 ?_
  refine pn_seq ?_
  refine pn_plain [] rfl ?_
  refine TE_q rfl rfl (RD.move rfl) rfl ?_
  refine TE_q rfl rfl (RD.move rfl) rfl ?_
  refine TE_appendX (st := none) (l := []) (ys := l) HX byteC_len byteC_one rfl rfl rfl rfl trivial rfl Try.underlying22 elByteR rfl rfl rfl BldOk.nil (Rdx.of_b hbl) (fun _ hw => hw.sp (fun a => by simp -failIfUnchanged <;> omega)) (by simp; omega) rfl (by intro e he; cases he) ?_
  intro st1 hbo2 hX3 _
  have hbo4 : BldOk 1 (byteC) l st1 := hbo2
  have hX5 : ∀ e ∈ (bldMx 5 (byteC) l st1), w.heap.size ≤ e.1 ∨ e.1 ∈ [] := hX3
  refine TE_sp ((bldMx 5 (byteC) l st1) ++ HX) (fun a => Nat.le_refl _) ?_
  have hR7 : Rdx 1 (byteC) (bldMx 5 (byteC) l st1) (bldVx l st1) l := hbo4.rdx (u := 5) byteC_len
  refine TE_sp ((bldMx 5 (byteC) l st1) ++ HX) (fun a => by simp -failIfUnchanged <;> omega) ?_
  refine TE_q rfl rfl (RD.assign rfl) rfl ?_
  refine TE_nil0 ?_
  refine pn_ret ?_
  exact pn_doneS (bldMx 5 (byteC) l st1) rfl rfl ⟨st1, hbo4, rfl, rfl⟩ (fun a => by simp -failIfUnchanged <;> omega) hX5

theorem c_r7Copy (x : Ob) (xd : Value) (xe : Value) (xp : Value) (HX : Mem) (w : World) (hbxd : Rdb HX xd x.data) (hbxe : Rdx 34 (entC) HX xe x.ents) (hbxp : Rdx 32 (idC) HX xp x.pars) (hox : ObOk x) (hH : Hp HX w) : Calls Try.prog 6 #[objV x xd xe xp] w (Ret w [] fun v H1 => ∃ s1 s2 s3, BldOk 1 (byteC) x.data s1 ∧ BldOk 34 (entC) x.ents s2 ∧ BldOk 32 (idC) x.pars s3 ∧ v = objV x (bldVx x.data s1) (bldVx x.ents s2) (bldVx x.pars s3) ∧ H1 = (bldMx 5 (byteC) x.data s1 ++ (bldMx 38 (entC) x.ents s2 ++ bldMx 25 (idC) x.pars s3))) := by
  have hw1 := hox.d; have hw2 := hox.e; have hw3 := hox.p; have hw4 := hox.m; have hwe := hox.en
  refine fn_enter (args := [_]) Try.func6 rfl Try.ntmps6 rfl hH ?_
  refine pn_seq ?_
  refine pn_plain [] rfl ?_
  refine TE_boxC (objV x xd xe xp).cells rfl rfl rfl trivial rfl fun b1 hb1 => ?_
  refine TE_allocC (objV (⟨0, [], [], (fun _ => 0), [], (⟨0, (fun _ => 0)⟩ : Lnk), ⟨#[]⟩⟩ : Ob) (.slice none 0 0) (.slice none 0 0) (.slice none 0 0)).cells rfl Try.zeroValue30 rfl trivial rfl fun b2 hb2 => ?_
  refine TE_nil0 ?_
  refine pn_seq ?_
  refine pn_plain [] rfl ?_
  refine TE_q rfl rfl (RD.assign rfl) rfl ?_
  refine TE_nil0 ?_
  refine pn_seq ?_
  refine pn_plain [] rfl ?_
  refine TE_q rfl rfl (RD.assign rfl) rfl ?_
  refine TE_nil0 ?_
  refine pn_seq ?_
  refine pn_plain [] rfl ?_
  refine TE_q rfl rfl (RD.fieldAddr (o := 1) Try.runUnderlying30 rfl rfl Try.sizeOf22 rfl) rfl ?_
  refine TE_l rfl rfl trivial rfl (RD.load (i := 1) (v := xd) Try.isAgg22 rfl rfl rfl) rfl ?_
  refine TE_callG _ HX rfl rfl trivial Try.call15 rfl rfl rfl (fun w hw => c_twin7 xd x.data HX w (hbxd.mono (fun _ hw => hw.sp (fun a => by simp -failIfUnchanged <;> omega))) (by first | assumption | omega | (simp; omega)) (hw.sp (fun a => by simp -failIfUnchanged <;> omega))) (fun a => by simp -failIfUnchanged <;> omega) ?_
  rintro v5 H6 ⟨st1, hbo2, rfl, rfl⟩ hX3
  have hRD4 : Rdx 1 (byteC) (bldMx 5 (byteC) x.data st1) (bldVx x.data st1) x.data := hbo2.rdx (u := 5) byteC_len
  refine TE_sp ((b2, .cells (objV (⟨0, [], [], (fun _ => 0), [], (⟨0, (fun _ => 0)⟩ : Lnk), ⟨#[]⟩⟩ : Ob) (.slice none 0 0) (.slice none 0 0) (.slice none 0 0)).cells 30 (0, 0)) :: (b1, .cells (objV x xd xe xp).cells 30 (0, 0)) :: ((bldMx 5 (byteC) x.data st1) ++ HX)) (fun a => by simp -failIfUnchanged <;> omega) ?_
  refine TE_q rfl rfl (RD.fieldAddr (o := 1) Try.runUnderlying30 rfl rfl Try.sizeOf22 rfl) rfl ?_
  refine TE_storeC 1 (objV x xd xe xp).cells (objV x (bldVx x.data st1) xe xp).cells ((b2, .cells (objV (⟨0, [], [], (fun _ => 0), [], (⟨0, (fun _ => 0)⟩ : Lnk), ⟨#[]⟩⟩ : Ob) (.slice none 0 0) (.slice none 0 0) (.slice none 0 0)).cells 30 (0, 0)) :: (b1, .cells (objV x (bldVx x.data st1) xe xp).cells 30 (0, 0)) :: ((bldMx 5 (byteC) x.data st1) ++ HX)) rfl Try.sizeOf22 trivial rfl rfl (bvx_cells _ _) (bvx_one _ _) rfl rfl (put_obj_data _ _ _ _ _ _) rfl (.inl hb1) ?_
  refine TE_nil0 ?_
  refine pn_seq ?_
  refine pn_plain [] rfl ?_
  refine TE_q rfl rfl (RD.move rfl) rfl ?_
  refine TE_q rfl rfl (RD.fieldAddr (o := 2) Try.runUnderlying30 rfl rfl Try.sizeOf23 rfl) rfl ?_
  refine TE_l rfl rfl trivial rfl (RD.load (i := 1) (v := xe) Try.isAgg23 rfl rfl rfl) rfl ?_
  refine TE_appendX (st := none) (l := []) (ys := x.ents) ((b2, .cells (objV (⟨0, [], [], (fun _ => 0), [], (⟨0, (fun _ => 0)⟩ : Lnk), ⟨#[]⟩⟩ : Ob) (.slice none 0 0) (.slice none 0 0) (.slice none 0 0)).cells 30 (0, 0)) :: (b1, .cells (objV x (bldVx x.data st1) xe xp).cells 30 (0, 0)) :: ((bldMx 5 (byteC) x.data st1) ++ HX)) entC_len entC_one rfl rfl rfl rfl trivial rfl Try.underlying23 el_ent rfl rfl rfl BldOk.nil hbxe (fun _ hw => hw.sp (fun a => by simp -failIfUnchanged <;> omega)) (by simp; omega) rfl (by intro e he; cases he) ?_
  intro st7 hbo8 hX9 _
  have hbo10 : BldOk 34 (entC) x.ents st7 := hbo8
  have hX11 : ∀ e ∈ (bldMx 38 (entC) x.ents st7), w.heap.size ≤ e.1 ∨ e.1 ∈ [] := hX9
  refine TE_sp ((bldMx 38 (entC) x.ents st7) ++ ((b2, .cells (objV (⟨0, [], [], (fun _ => 0), [], (⟨0, (fun _ => 0)⟩ : Lnk), ⟨#[]⟩⟩ : Ob) (.slice none 0 0) (.slice none 0 0) (.slice none 0 0)).cells 30 (0, 0)) :: (b1, .cells (objV x (bldVx x.data st1) xe xp).cells 30 (0, 0)) :: ((bldMx 5 (byteC) x.data st1) ++ HX))) (fun a => Nat.le_refl _) ?_
  have hR13 : Rdx 34 (entC) (bldMx 38 (entC) x.ents st7) (bldVx x.ents st7) x.ents := hbo10.rdx (u := 38) entC_len
  refine TE_sp ((b2, .cells (objV (⟨0, [], [], (fun _ => 0), [], (⟨0, (fun _ => 0)⟩ : Lnk), ⟨#[]⟩⟩ : Ob) (.slice none 0 0) (.slice none 0 0) (.slice none 0 0)).cells 30 (0, 0)) :: (b1, .cells (objV x (bldVx x.data st1) xe xp).cells 30 (0, 0)) :: ((bldMx 38 (entC) x.ents st7) ++ ((bldMx 5 (byteC) x.data st1) ++ HX))) (fun a => by simp -failIfUnchanged <;> omega) ?_
  refine TE_q rfl rfl (RD.fieldAddr (o := 2) Try.runUnderlying30 rfl rfl Try.sizeOf23 rfl) rfl ?_
  refine TE_storeC 1 (objV x (bldVx x.data st1) xe xp).cells (objV x (bldVx x.data st1) (bldVx x.ents st7) xp).cells ((b2, .cells (objV (⟨0, [], [], (fun _ => 0), [], (⟨0, (fun _ => 0)⟩ : Lnk), ⟨#[]⟩⟩ : Ob) (.slice none 0 0) (.slice none 0 0) (.slice none 0 0)).cells 30 (0, 0)) :: (b1, .cells (objV x (bldVx x.data st1) (bldVx x.ents st7) xp).cells 30 (0, 0)) :: ((bldMx 38 (entC) x.ents st7) ++ ((bldMx 5 (byteC) x.data st1) ++ HX))) rfl Try.sizeOf23 trivial rfl rfl (bvx_cells _ _) (bvx_one _ _) rfl rfl (put_obj_ents _ _ _ _ _ _) rfl (.inl hb1) ?_
  refine TE_nil0 ?_
  refine pn_seq ?_
  refine pn_plain [] rfl ?_
  refine TE_q rfl rfl (RD.move rfl) rfl ?_
  refine TE_q rfl rfl (RD.fieldAddr (o := 35) Try.runUnderlying30 rfl rfl Try.sizeOf26 rfl) rfl ?_
  refine TE_l rfl rfl trivial rfl (RD.load (i := 1) (v := xp) Try.isAgg26 rfl rfl rfl) rfl ?_
  refine TE_appendX (st := none) (l := []) (ys := x.pars) ((b2, .cells (objV (⟨0, [], [], (fun _ => 0), [], (⟨0, (fun _ => 0)⟩ : Lnk), ⟨#[]⟩⟩ : Ob) (.slice none 0 0) (.slice none 0 0) (.slice none 0 0)).cells 30 (0, 0)) :: (b1, .cells (objV x (bldVx x.data st1) (bldVx x.ents st7) xp).cells 30 (0, 0)) :: ((bldMx 38 (entC) x.ents st7) ++ ((bldMx 5 (byteC) x.data st1) ++ HX))) idC_len idC_one rfl rfl rfl rfl trivial rfl Try.underlying26 elId rfl rfl rfl BldOk.nil hbxp (fun _ hw => hw.sp (fun a => by simp -failIfUnchanged <;> omega)) (by simp; omega) rfl (by intro e he; cases he) ?_
  intro st14 hbo15 hX16 _
  have hbo17 : BldOk 32 (idC) x.pars st14 := hbo15
  have hX18 : ∀ e ∈ (bldMx 25 (idC) x.pars st14), w.heap.size ≤ e.1 ∨ e.1 ∈ [] := hX16
  refine TE_sp ((bldMx 25 (idC) x.pars st14) ++ ((b2, .cells (objV (⟨0, [], [], (fun _ => 0), [], (⟨0, (fun _ => 0)⟩ : Lnk), ⟨#[]⟩⟩ : Ob) (.slice none 0 0) (.slice none 0 0) (.slice none 0 0)).cells 30 (0, 0)) :: (b1, .cells (objV x (bldVx x.data st1) (bldVx x.ents st7) xp).cells 30 (0, 0)) :: ((bldMx 38 (entC) x.ents st7) ++ ((bldMx 5 (byteC) x.data st1) ++ HX)))) (fun a => Nat.le_refl _) ?_
  have hR20 : Rdx 32 (idC) (bldMx 25 (idC) x.pars st14) (bldVx x.pars st14) x.pars := hbo17.rdx (u := 25) idC_len
  refine TE_sp ((b2, .cells (objV (⟨0, [], [], (fun _ => 0), [], (⟨0, (fun _ => 0)⟩ : Lnk), ⟨#[]⟩⟩ : Ob) (.slice none 0 0) (.slice none 0 0) (.slice none 0 0)).cells 30 (0, 0)) :: (b1, .cells (objV x (bldVx x.data st1) (bldVx x.ents st7) xp).cells 30 (0, 0)) :: ((bldMx 25 (idC) x.pars st14) ++ ((bldMx 38 (entC) x.ents st7) ++ ((bldMx 5 (byteC) x.data st1) ++ HX)))) (fun a => by simp -failIfUnchanged <;> omega) ?_
  refine TE_q rfl rfl (RD.fieldAddr (o := 35) Try.runUnderlying30 rfl rfl Try.sizeOf26 rfl) rfl ?_
  refine TE_storeC 1 (objV x (bldVx x.data st1) (bldVx x.ents st7) xp).cells (objV x (bldVx x.data st1) (bldVx x.ents st7) (bldVx x.pars st14)).cells ((b2, .cells (objV (⟨0, [], [], (fun _ => 0), [], (⟨0, (fun _ => 0)⟩ : Lnk), ⟨#[]⟩⟩ : Ob) (.slice none 0 0) (.slice none 0 0) (.slice none 0 0)).cells 30 (0, 0)) :: (b1, .cells (objV x (bldVx x.data st1) (bldVx x.ents st7) (bldVx x.pars st14)).cells 30 (0, 0)) :: ((bldMx 25 (idC) x.pars st14) ++ ((bldMx 38 (entC) x.ents st7) ++ ((bldMx 5 (byteC) x.data st1) ++ HX)))) rfl Try.sizeOf26 trivial rfl rfl (bvx_cells _ _) (bvx_one _ _) rfl rfl (put_obj_pars _ _ _ _ _ _) rfl (.inl hb1) ?_
  refine TE_nil0 ?_
  refine pn_seq ?_
  refine pn_plainG [] ((b2, .cells (objV (⟨0, [], [], (fun _ => 0), [], (⟨0, (fun _ => 0)⟩ : Lnk), ⟨#[]⟩⟩ : Ob) (.slice none 0 0) (.slice none 0 0) (.slice none 0 0)).cells 30 (0, 0)) :: (b1, .cells (objV x (bldVx x.data st1) (bldVx x.ents st7) (bldVx x.pars st14)).cells 30 (0, 0)) :: ((bldMx 25 (idC) x.pars st14) ++ ((bldMx 38 (entC) x.ents st7) ++ (bldMx 5 (byteC) x.data st1)))) rfl (fun a => by simp -failIfUnchanged <;> omega) ?_
  refine TE_l rfl rfl trivial rfl (RD.loadA (i := 1) Try.isAgg30 Try.sizeOf30 rfl rfl (Nat.le_of_ble_eq_true rfl) (obj_all _ _ _ _)) rfl ?_
  refine TE_putCW 0 (objV (⟨0, [], [], (fun _ => 0), [], (⟨0, (fun _ => 0)⟩ : Lnk), ⟨#[]⟩⟩ : Ob) (.slice none 0 0) (.slice none 0 0) (.slice none 0 0)).cells (objV x (bldVx x.data st1) (bldVx x.ents st7) (bldVx x.pars st14)).cells ((b2, .cells (objV x (bldVx x.data st1) (bldVx x.ents st7) (bldVx x.pars st14)).cells 30 (0, 0)) :: (b1, .cells (objV x (bldVx x.data st1) (bldVx x.ents st7) (bldVx x.pars st14)).cells 30 (0, 0)) :: ((bldMx 25 (idC) x.pars st14) ++ ((bldMx 38 (entC) x.ents st7) ++ (bldMx 5 (byteC) x.data st1)))) rfl Try.sizeOf30 trivial rfl rfl rfl (objV_one _ _ _ _ (bvx_one _ _) (bvx_one _ _) (bvx_one _ _)) rfl rfl rfl rfl (.inl hb2) ?_
  refine TE_nil0 ?_
  refine pn_ret ?_
  exact pn_doneF rfl ⟨objV x (bldVx x.data st1) (bldVx x.ents st7) (bldVx x.pars st14), _, b2, 0, rfl, rfl, load_agg (i := 0) Try.isAgg30 Try.sizeOf30 rfl (Nat.le_of_ble_eq_true rfl) (obj_all _ _ _ _), rfl⟩ ⟨st1, st7, st14, hbo2, hbo10, hbo17, rfl, rfl⟩ (fun _ h => h.sp (fun a => by simp -failIfUnchanged <;> omega)) (fun e he => Or.symm ((ownA (ownN hX3) (ownA hX11 hX18)) e he))

end Go.Proofs.Ytjdjlcmajeikcaa
