import Derived.Test.YtloljpefdecmhaaGreatDoorGap
namespace Go.Proofs.YtloljpefdecmhaaGreatDoor
open Go Go.Mv
set_option maxRecDepth 8000
theorem c_blobBare (x : Ob) (xd : Value) (xe : Value) (xp : Value) (HX : Mem) (w : World) (hbxd : Rdb HX xd x.data) (hbxe : Rdx 34 (entC) HX xe x.ents) (hbxp : Rdx 32 (idC) HX xp x.pars) (hox : ObOk x) (hH : Hp HX w) : Calls Tryz.prog 179 #[objV x xd xe xp] w (Ret w [] fun v H1 => v = objV (⟨x.k, x.data, [], (fun _ => 0), [], (⟨0, (fun _ => 0)⟩ : Lnk), ⟨#[]⟩⟩ : Ob) xd (.slice none 0 0) (.slice none 0 0) ∧ H1 = []) := by
  refine fn_enter (args := [_]) Tryz.func179 rfl Tryz.ntmps179 rfl hH ?_
  refine pn_seq ?_
  refine pn_plain [] rfl ?_
  refine TE_boxC (objV x xd xe xp).cells rfl rfl rfl trivial rfl fun b1 hb1 => ?_
  refine TE_allocC (objV (⟨0, [], [], (fun _ => 0), [], (⟨0, (fun _ => 0)⟩ : Lnk), ⟨#[]⟩⟩ : Ob) (.slice none 0 0) (.slice none 0 0) (.slice none 0 0)).cells rfl Tryz.zeroValue48 rfl trivial rfl fun b2 hb2 => ?_
  refine TE_nil0 ?_
  refine pn_seq ?_
  refine pn_plain [] rfl ?_
  refine TE_q rfl rfl (RD.fieldAddr (o := 0) Tryz.runUnderlying175 rfl rfl Tryz.sizeOf48 rfl) rfl ?_
  refine TE_q rfl rfl (RD.fieldAddr (o := 0) Tryz.runUnderlying48 rfl rfl Tryz.sizeOf3 rfl) rfl ?_
  refine TE_l rfl rfl trivial rfl (RD.load (i := 1) (v := .int .i64 x.k) Tryz.isAgg3 rfl rfl rfl) rfl ?_
  refine TE_q rfl rfl (RD.fieldAddr (o := 0) Tryz.runUnderlying175 rfl rfl Tryz.sizeOf48 rfl) rfl ?_
  refine TE_q rfl rfl (RD.fieldAddr (o := 1) Tryz.runUnderlying48 rfl rfl Tryz.sizeOf32 rfl) rfl ?_
  refine TE_l rfl rfl trivial rfl (RD.load (i := 1) (v := xd) Tryz.isAgg32 rfl rfl rfl) rfl ?_
  refine TE_q rfl rfl (RD.build (v := objV (⟨x.k, x.data, [], (fun _ => 0), [], (⟨0, (fun _ => 0)⟩ : Lnk), ⟨#[]⟩⟩ : Ob) xd (.slice none 0 0) (.slice none 0 0)) rfl (fun w => by obtain ⟨a0, c0, e0⟩ := (hbxd).shape; rw [e0]; kernel_rfl)) rfl ?_
  refine TE_putCW 0 (objV (⟨0, [], [], (fun _ => 0), [], (⟨0, (fun _ => 0)⟩ : Lnk), ⟨#[]⟩⟩ : Ob) (.slice none 0 0) (.slice none 0 0) (.slice none 0 0)).cells (objV (⟨x.k, x.data, [], (fun _ => 0), [], (⟨0, (fun _ => 0)⟩ : Lnk), ⟨#[]⟩⟩ : Ob) xd (.slice none 0 0) (.slice none 0 0)).cells ((b2, .cells (objV (⟨x.k, x.data, [], (fun _ => 0), [], (⟨0, (fun _ => 0)⟩ : Lnk), ⟨#[]⟩⟩ : Ob) xd (.slice none 0 0) (.slice none 0 0)).cells 48 (0, 0)) :: (b1, .cells (objV x xd xe xp).cells 175 (0, 0)) :: HX) rfl Tryz.sizeOf48 trivial rfl rfl rfl (objV_one _ _ _ _ (by obtain ⟨a, c, e⟩ := (hbxd).shape; rw [e]; rfl) rfl rfl) rfl rfl rfl rfl (.inl hb2) ?_
  refine TE_nil0 ?_
  refine pn_ret ?_
  exact pn_doneF rfl ⟨objV (⟨x.k, x.data, [], (fun _ => 0), [], (⟨0, (fun _ => 0)⟩ : Lnk), ⟨#[]⟩⟩ : Ob) xd (.slice none 0 0) (.slice none 0 0), _, b2, 0, rfl, rfl, load_agg (i := 0) Tryz.isAgg48 Tryz.sizeOf48 rfl (Nat.le_of_ble_eq_true rfl) (obj_all _ _ _ _), rfl⟩ ⟨rfl, rfl⟩ (fun _ h => h.sp (fun _ => Nat.zero_le _)) (fun _ he => nomatch he)

theorem c_treeBare (x : Ob) (xd : Value) (xe : Value) (xp : Value) (HX : Mem) (w : World) (hbxd : Rdb HX xd x.data) (hbxe : Rdx 34 (entC) HX xe x.ents) (hbxp : Rdx 32 (idC) HX xp x.pars) (hox : ObOk x) (hH : Hp HX w) : Calls Tryz.prog 187 #[objV x xd xe xp] w (Ret w [] fun v H1 => v = objV (⟨x.k, [], x.ents, (fun _ => 0), [], (⟨0, (fun _ => 0)⟩ : Lnk), ⟨#[]⟩⟩ : Ob) (.slice none 0 0) xe (.slice none 0 0) ∧ H1 = []) := by
  refine fn_enter (args := [_]) Tryz.func187 rfl Tryz.ntmps187 rfl hH ?_
  refine pn_seq ?_
  refine pn_plain [] rfl ?_
  refine TE_boxC (objV x xd xe xp).cells rfl rfl rfl trivial rfl fun b1 hb1 => ?_
  refine TE_allocC (objV (⟨0, [], [], (fun _ => 0), [], (⟨0, (fun _ => 0)⟩ : Lnk), ⟨#[]⟩⟩ : Ob) (.slice none 0 0) (.slice none 0 0) (.slice none 0 0)).cells rfl Tryz.zeroValue48 rfl trivial rfl fun b2 hb2 => ?_
  refine TE_nil0 ?_
  refine pn_seq ?_
  refine pn_plain [] rfl ?_
  refine TE_q rfl rfl (RD.fieldAddr (o := 0) Tryz.runUnderlying176 rfl rfl Tryz.sizeOf48 rfl) rfl ?_
  refine TE_q rfl rfl (RD.fieldAddr (o := 0) Tryz.runUnderlying48 rfl rfl Tryz.sizeOf3 rfl) rfl ?_
  refine TE_l rfl rfl trivial rfl (RD.load (i := 1) (v := .int .i64 x.k) Tryz.isAgg3 rfl rfl rfl) rfl ?_
  refine TE_q rfl rfl (RD.fieldAddr (o := 0) Tryz.runUnderlying176 rfl rfl Tryz.sizeOf48 rfl) rfl ?_
  refine TE_q rfl rfl (RD.fieldAddr (o := 2) Tryz.runUnderlying48 rfl rfl Tryz.sizeOf43 rfl) rfl ?_
  refine TE_l rfl rfl trivial rfl (RD.load (i := 1) (v := xe) Tryz.isAgg43 rfl rfl rfl) rfl ?_
  refine TE_q rfl rfl (RD.build (v := objV (⟨x.k, [], x.ents, (fun _ => 0), [], (⟨0, (fun _ => 0)⟩ : Lnk), ⟨#[]⟩⟩ : Ob) (.slice none 0 0) xe (.slice none 0 0)) rfl (fun w => by obtain ⟨a0, c0, e0⟩ := (hbxe).shape; rw [e0]; kernel_rfl)) rfl ?_
  refine TE_putCW 0 (objV (⟨0, [], [], (fun _ => 0), [], (⟨0, (fun _ => 0)⟩ : Lnk), ⟨#[]⟩⟩ : Ob) (.slice none 0 0) (.slice none 0 0) (.slice none 0 0)).cells (objV (⟨x.k, [], x.ents, (fun _ => 0), [], (⟨0, (fun _ => 0)⟩ : Lnk), ⟨#[]⟩⟩ : Ob) (.slice none 0 0) xe (.slice none 0 0)).cells ((b2, .cells (objV (⟨x.k, [], x.ents, (fun _ => 0), [], (⟨0, (fun _ => 0)⟩ : Lnk), ⟨#[]⟩⟩ : Ob) (.slice none 0 0) xe (.slice none 0 0)).cells 48 (0, 0)) :: (b1, .cells (objV x xd xe xp).cells 176 (0, 0)) :: HX) rfl Tryz.sizeOf48 trivial rfl rfl rfl (objV_one _ _ _ _ rfl (by obtain ⟨a, c, e⟩ := (hbxe).shape; rw [e]; rfl) rfl) rfl rfl rfl rfl (.inl hb2) ?_
  refine TE_nil0 ?_
  refine pn_ret ?_
  exact pn_doneF rfl ⟨objV (⟨x.k, [], x.ents, (fun _ => 0), [], (⟨0, (fun _ => 0)⟩ : Lnk), ⟨#[]⟩⟩ : Ob) (.slice none 0 0) xe (.slice none 0 0), _, b2, 0, rfl, rfl, load_agg (i := 0) Tryz.isAgg48 Tryz.sizeOf48 rfl (Nat.le_of_ble_eq_true rfl) (obj_all _ _ _ _), rfl⟩ ⟨rfl, rfl⟩ (fun _ h => h.sp (fun _ => Nat.zero_le _)) (fun _ he => nomatch he)

theorem c_commitBare (x : Ob) (xd : Value) (xe : Value) (xp : Value) (HX : Mem) (w : World) (hbxd : Rdb HX xd x.data) (hbxe : Rdx 34 (entC) HX xe x.ents) (hbxp : Rdx 32 (idC) HX xp x.pars) (hox : ObOk x) (hH : Hp HX w) : Calls Tryz.prog 203 #[objV x xd xe xp] w (Ret w [] fun v H1 => v = objV (⟨x.k, [], [], x.t, x.pars, (⟨0, (fun _ => 0)⟩ : Lnk), x.m⟩ : Ob) (.slice none 0 0) (.slice none 0 0) xp ∧ H1 = []) := by
  refine fn_enter (args := [_]) Tryz.func203 rfl Tryz.ntmps203 rfl hH ?_
  refine pn_seq ?_
  refine pn_plain [] rfl ?_
  refine TE_boxC (objV x xd xe xp).cells rfl rfl rfl trivial rfl fun b1 hb1 => ?_
  refine TE_allocC (objV (⟨0, [], [], (fun _ => 0), [], (⟨0, (fun _ => 0)⟩ : Lnk), ⟨#[]⟩⟩ : Ob) (.slice none 0 0) (.slice none 0 0) (.slice none 0 0)).cells rfl Tryz.zeroValue48 rfl trivial rfl fun b2 hb2 => ?_
  refine TE_nil0 ?_
  refine pn_seq ?_
  refine pn_plain [] rfl ?_
  refine TE_q rfl rfl (RD.fieldAddr (o := 0) Tryz.runUnderlying177 rfl rfl Tryz.sizeOf48 rfl) rfl ?_
  refine TE_q rfl rfl (RD.fieldAddr (o := 0) Tryz.runUnderlying48 rfl rfl Tryz.sizeOf3 rfl) rfl ?_
  refine TE_l rfl rfl trivial rfl (RD.load (i := 1) (v := .int .i64 x.k) Tryz.isAgg3 rfl rfl rfl) rfl ?_
  refine TE_q rfl rfl (RD.fieldAddr (o := 0) Tryz.runUnderlying177 rfl rfl Tryz.sizeOf48 rfl) rfl ?_
  refine TE_q rfl rfl (RD.fieldAddr (o := 3) Tryz.runUnderlying48 rfl rfl Tryz.sizeOf36 rfl) rfl ?_
  refine TE_l rfl rfl trivial rfl (RD.loadA (i := 1) (v := idV x.t) Tryz.isAgg36 Tryz.sizeOf36 rfl rfl (Nat.le_of_ble_eq_true rfl) (obj_t _ _ _ _)) rfl ?_
  refine TE_q rfl rfl (RD.fieldAddr (o := 0) Tryz.runUnderlying177 rfl rfl Tryz.sizeOf48 rfl) rfl ?_
  refine TE_q rfl rfl (RD.fieldAddr (o := 35) Tryz.runUnderlying48 rfl rfl Tryz.sizeOf44 rfl) rfl ?_
  refine TE_l rfl rfl trivial rfl (RD.load (i := 1) (v := xp) Tryz.isAgg44 rfl rfl rfl) rfl ?_
  refine TE_q rfl rfl (RD.fieldAddr (o := 0) Tryz.runUnderlying177 rfl rfl Tryz.sizeOf48 rfl) rfl ?_
  refine TE_q rfl rfl (RD.fieldAddr (o := 69) Tryz.runUnderlying48 rfl rfl Tryz.sizeOf9 rfl) rfl ?_
  refine TE_l rfl rfl trivial rfl (RD.load (i := 1) (v := .string x.m) Tryz.isAgg9 rfl rfl rfl) rfl ?_
  refine TE_q rfl rfl (RD.build (v := objV (⟨x.k, [], [], x.t, x.pars, (⟨0, (fun _ => 0)⟩ : Lnk), x.m⟩ : Ob) (.slice none 0 0) (.slice none 0 0) xp) rfl (fun w => by obtain ⟨a0, c0, e0⟩ := (hbxp).shape; rw [e0]; kernel_rfl)) rfl ?_
  refine TE_putCW 0 (objV (⟨0, [], [], (fun _ => 0), [], (⟨0, (fun _ => 0)⟩ : Lnk), ⟨#[]⟩⟩ : Ob) (.slice none 0 0) (.slice none 0 0) (.slice none 0 0)).cells (objV (⟨x.k, [], [], x.t, x.pars, (⟨0, (fun _ => 0)⟩ : Lnk), x.m⟩ : Ob) (.slice none 0 0) (.slice none 0 0) xp).cells ((b2, .cells (objV (⟨x.k, [], [], x.t, x.pars, (⟨0, (fun _ => 0)⟩ : Lnk), x.m⟩ : Ob) (.slice none 0 0) (.slice none 0 0) xp).cells 48 (0, 0)) :: (b1, .cells (objV x xd xe xp).cells 177 (0, 0)) :: HX) rfl Tryz.sizeOf48 trivial rfl rfl rfl (objV_one _ _ _ _ rfl rfl (by obtain ⟨a, c, e⟩ := (hbxp).shape; rw [e]; rfl)) rfl rfl rfl rfl (.inl hb2) ?_
  refine TE_nil0 ?_
  refine pn_ret ?_
  exact pn_doneF rfl ⟨objV (⟨x.k, [], [], x.t, x.pars, (⟨0, (fun _ => 0)⟩ : Lnk), x.m⟩ : Ob) (.slice none 0 0) (.slice none 0 0) xp, _, b2, 0, rfl, rfl, load_agg (i := 0) Tryz.isAgg48 Tryz.sizeOf48 rfl (Nat.le_of_ble_eq_true rfl) (obj_all _ _ _ _), rfl⟩ ⟨rfl, rfl⟩ (fun _ h => h.sp (fun _ => Nat.zero_le _)) (fun _ he => nomatch he)

theorem c_tagBare (x : Ob) (xd : Value) (xe : Value) (xp : Value) (HX : Mem) (w : World) (hbxd : Rdb HX xd x.data) (hbxe : Rdx 34 (entC) HX xe x.ents) (hbxp : Rdx 32 (idC) HX xp x.pars) (hox : ObOk x) (hH : Hp HX w) : Calls Tryz.prog 208 #[objV x xd xe xp] w (Ret w [] fun v H1 => v = objV (⟨x.k, [], [], (fun _ => 0), [], x.tg, x.m⟩ : Ob) (.slice none 0 0) (.slice none 0 0) (.slice none 0 0) ∧ H1 = []) := by
  refine fn_enter (args := [_]) Tryz.func208 rfl Tryz.ntmps208 rfl hH ?_
  refine pn_seq ?_
  refine pn_plain [] rfl ?_
  refine TE_boxC (objV x xd xe xp).cells rfl rfl rfl trivial rfl fun b1 hb1 => ?_
  refine TE_allocC (objV (⟨0, [], [], (fun _ => 0), [], (⟨0, (fun _ => 0)⟩ : Lnk), ⟨#[]⟩⟩ : Ob) (.slice none 0 0) (.slice none 0 0) (.slice none 0 0)).cells rfl Tryz.zeroValue48 rfl trivial rfl fun b2 hb2 => ?_
  refine TE_nil0 ?_
  refine pn_seq ?_
  refine pn_plain [] rfl ?_
  refine TE_q rfl rfl (RD.fieldAddr (o := 0) Tryz.runUnderlying178 rfl rfl Tryz.sizeOf48 rfl) rfl ?_
  refine TE_q rfl rfl (RD.fieldAddr (o := 0) Tryz.runUnderlying48 rfl rfl Tryz.sizeOf3 rfl) rfl ?_
  refine TE_l rfl rfl trivial rfl (RD.load (i := 1) (v := .int .i64 x.k) Tryz.isAgg3 rfl rfl rfl) rfl ?_
  refine TE_q rfl rfl (RD.fieldAddr (o := 0) Tryz.runUnderlying178 rfl rfl Tryz.sizeOf48 rfl) rfl ?_
  refine TE_q rfl rfl (RD.fieldAddr (o := 36) Tryz.runUnderlying48 rfl rfl Tryz.sizeOf46 rfl) rfl ?_
  refine TE_l rfl rfl trivial rfl (RD.loadA (i := 1) (v := lnkV x.tg) Tryz.isAgg46 Tryz.sizeOf46 rfl rfl (Nat.le_of_ble_eq_true rfl) (obj_tg _ _ _ _)) rfl ?_
  refine TE_q rfl rfl (RD.fieldAddr (o := 0) Tryz.runUnderlying178 rfl rfl Tryz.sizeOf48 rfl) rfl ?_
  refine TE_q rfl rfl (RD.fieldAddr (o := 69) Tryz.runUnderlying48 rfl rfl Tryz.sizeOf9 rfl) rfl ?_
  refine TE_l rfl rfl trivial rfl (RD.load (i := 1) (v := .string x.m) Tryz.isAgg9 rfl rfl rfl) rfl ?_
  refine TE_q rfl rfl (RD.build (v := objV (⟨x.k, [], [], (fun _ => 0), [], x.tg, x.m⟩ : Ob) (.slice none 0 0) (.slice none 0 0) (.slice none 0 0)) rfl (fun w => by kernel_rfl)) rfl ?_
  refine TE_putCW 0 (objV (⟨0, [], [], (fun _ => 0), [], (⟨0, (fun _ => 0)⟩ : Lnk), ⟨#[]⟩⟩ : Ob) (.slice none 0 0) (.slice none 0 0) (.slice none 0 0)).cells (objV (⟨x.k, [], [], (fun _ => 0), [], x.tg, x.m⟩ : Ob) (.slice none 0 0) (.slice none 0 0) (.slice none 0 0)).cells ((b2, .cells (objV (⟨x.k, [], [], (fun _ => 0), [], x.tg, x.m⟩ : Ob) (.slice none 0 0) (.slice none 0 0) (.slice none 0 0)).cells 48 (0, 0)) :: (b1, .cells (objV x xd xe xp).cells 178 (0, 0)) :: HX) rfl Tryz.sizeOf48 trivial rfl rfl rfl (objV_one _ _ _ _ rfl rfl rfl) rfl rfl rfl rfl (.inl hb2) ?_
  refine TE_nil0 ?_
  refine pn_ret ?_
  exact pn_doneF rfl ⟨objV (⟨x.k, [], [], (fun _ => 0), [], x.tg, x.m⟩ : Ob) (.slice none 0 0) (.slice none 0 0) (.slice none 0 0), _, b2, 0, rfl, rfl, load_agg (i := 0) Tryz.isAgg48 Tryz.sizeOf48 rfl (Nat.le_of_ble_eq_true rfl) (obj_all _ _ _ _), rfl⟩ ⟨rfl, rfl⟩ (fun _ h => h.sp (fun _ => Nat.zero_le _)) (fun _ he => nomatch he)

theorem c_blobLinks (x : Ob) (xd : Value) (xe : Value) (xp : Value) (HX : Mem) (w : World) (hbxd : Rdb HX xd x.data) (hbxe : Rdx 34 (entC) HX xe x.ents) (hbxp : Rdx 32 (idC) HX xp x.pars) (hox : ObOk x) (hH : Hp HX w) : Calls Tryz.prog 180 #[objV x xd xe xp] w (Ret w [] fun v H1 => ∃ st, BldOk 33 (lnkC) ([] : List Lnk) st ∧ v = bldVx ([] : List Lnk) st ∧ H1 = bldMx 46 (lnkC) ([] : List Lnk) st) := by
  refine fn_enter (args := [_]) Tryz.func180 rfl Tryz.ntmps180 rfl hH ?_
  refine pn_seq ?_
  refine pn_plain [] rfl ?_
  refine TE_boxC (objV x xd xe xp).cells rfl rfl rfl trivial rfl fun b1 hb1 => ?_
  refine TE_q rfl rfl (RD.assign rfl) rfl ?_
  refine TE_nil0 ?_
  refine pn_seq ?_
  refine pn_plainG [] [] rfl (fun a => by simp -failIfUnchanged <;> omega) ?_
  refine TE_q rfl rfl (RD.assign rfl) rfl ?_
  refine TE_nil0 ?_
  refine pn_ret ?_
  exact pn_doneS [] rfl rfl ⟨none, BldOk.nil, rfl, rfl⟩ (fun _ => Nat.zero_le _) (fun _ he => nomatch he)

theorem c_treeLinks (x : Ob) (xd : Value) (xe : Value) (xp : Value) (HX : Mem) (w : World) (hbxd : Rdb HX xd x.data) (hbxe : Rdx 34 (entC) HX xe x.ents) (hbxp : Rdx 32 (idC) HX xp x.pars) (hox : ObOk x) (hH : Hp HX w) : Calls Tryz.prog 188 #[objV x xd xe xp] w (Ret w [] fun v H1 => ∃ st, BldOk 33 (lnkC) (entsL x.ents) st ∧ v = bldVx (entsL x.ents) st ∧ H1 = bldMx 46 (lnkC) (entsL x.ents) st) := by
  have hw1 := hox.d; have hw2 := hox.e; have hw3 := hox.p; have hw4 := hox.m; have hwe := hox.en
  refine fn_enter (args := [_]) Tryz.func188 rfl Tryz.ntmps188 rfl hH ?_
  refine pn_seq ?_
  refine pn_plain [] rfl ?_
  refine TE_boxC (objV x xd xe xp).cells rfl rfl rfl trivial rfl fun b1 hb1 => ?_
  refine TE_q rfl rfl (RD.assign rfl) rfl ?_
  refine TE_nil0 ?_
  refine pn_seq ?_
  refine pn_plain [] rfl ?_
  refine TE_q rfl rfl (RD.assign rfl) rfl ?_
  refine TE_nil0 ?_
  refine pn_seq ?_
  refine pn_seq ?_
  refine pn_plain [3] rfl ?_
  refine TE_q rfl rfl (RD.fieldAddr (o := 0) Tryz.runUnderlying176 rfl rfl Tryz.sizeOf48 rfl) rfl ?_
  refine TE_q rfl rfl (RD.fieldAddr (o := 2) Tryz.runUnderlying48 rfl rfl Tryz.sizeOf43 rfl) rfl ?_
  refine TE_l rfl rfl trivial rfl (RD.load (i := 0) (v := xe) Tryz.isAgg43 rfl rfl rfl) rfl ?_
  refine TE_q rfl rfl (RD.lenX Tryz.runUnderlying43 rfl hbxe) rfl ?_
  refine TE_q rfl rfl (RD.move rfl) rfl ?_
  refine TE_nil0 ?_
  refine pn_block ?_
  refine pn_loopS (σ := Nat × SnkS) (fun q => [(8, xe), (9, .int .i64 (x.ents.length : Int)), (3, bldVx (entsL (x.ents.take q.1)) q.2), (10, .int .i64 (q.1 : Int))]) (fun q => ((bldMx 46 (lnkC) (entsL (x.ents.take q.1)) q.2) ++ HX)) (fun q => (q.1 ≤ x.ents.length) ∧ (BldOk 33 (lnkC) (entsL (x.ents.take q.1)) q.2) ∧ (∀ e ∈ bldMx 46 (lnkC) (entsL (x.ents.take q.1)) q.2, w.heap.size ≤ e.1 ∨ e.1 ∈ [])) (fun q => x.ents.length - q.1) (0, none) ⟨(by omega), BldOk.nil, (by intro e he; cases he)⟩ ⟨rfl, rfl, rfl, rfl, trivial⟩ (fun a => by simp -failIfUnchanged <;> omega) ?_
  rintro ⟨i, st⟩ ⟨hi, hbost, hXst⟩
  dsimp only at hi hbost hXst ⊢
  have hRst : Rdx 33 (lnkC) (bldMx 46 (lnkC) (entsL (x.ents.take i)) st) (bldVx (entsL (x.ents.take i)) st) (entsL (x.ents.take i)) := hbost.rdx (u := 46) lnkC_len
  have hln := entsL_len (x.ents.take i)
  rw [List.length_take] at hln
  refine pn_seq ?_
  refine pn_plain [] rfl ?_
  refine TE_q rfl rfl (RD.lss rfl rfl) rfl ?_
  refine TE_nil0 ?_
  refine pn_seq ?_
  refine pn_condD rfl (fun hc1 => ?_) (fun hc1 => ?_)
  · refine pn_skip ?_
    refine pn_seq ?_
    refine pn_block ?_
    refine pn_seq ?_
    refine pn_plain [] rfl ?_
    refine TE_q rfl rfl (RD.idxR (i := i) (o := (i * 34 + 0)) Tryz.runUnderlying43 Tryz.sizeOf97 rfl hbxe rfl rfl (by omega) (by rfl)) rfl ?_
    refine TE_l rfl rfl trivial rfl (RD.ldRA (i := i) (j := 0) (vs := (entC (gt x.ents i))) Tryz.isAgg97 Tryz.sizeOf97 rfl hbxe (gt_some (by omega)) (by rfl) rfl (fun _ _ hu => by rw [Nat.zero_add]; exact hu) (entC_agg _) (fun _ hw => hw.sp (fun a => by simp -failIfUnchanged <;> omega))) rfl ?_
    refine TE_allocC (entV (⟨⟨#[]⟩, 0, (fun _ => 0)⟩ : Ent)).cells rfl Tryz.zeroValue97 rfl trivial rfl fun b5 hb5 => ?_
    refine TE_putCW 0 (entV (⟨⟨#[]⟩, 0, (fun _ => 0)⟩ : Ent)).cells (entV (gt x.ents i)).cells ((b5, .cells (entV (gt x.ents i)).cells 97 (0, 0)) :: ((bldMx 46 (lnkC) (entsL (x.ents.take i)) st) ++ HX)) rfl Tryz.sizeOf97 trivial rfl rfl rfl rfl rfl rfl rfl rfl (.inl hb5) ?_
    refine TE_nil0 ?_
    refine pn_plain [] rfl ?_
    refine TE_q rfl rfl (RD.move rfl) rfl ?_
    refine TE_q rfl rfl (RD.fieldAddr (o := 1) Tryz.runUnderlying97 rfl rfl Tryz.sizeOf3 rfl) rfl ?_
    refine TE_l rfl rfl trivial rfl (RD.load (i := 0) (v := .int .i64 ((gt x.ents i).k)) Tryz.isAgg3 rfl rfl rfl) rfl ?_
    refine TE_q rfl rfl (RD.fieldAddr (o := 2) Tryz.runUnderlying97 rfl rfl Tryz.sizeOf36 rfl) rfl ?_
    refine TE_l rfl rfl trivial rfl (RD.loadA (i := 0) (v := idV ((gt x.ents i).id)) Tryz.isAgg36 Tryz.sizeOf36 rfl rfl (Nat.le_of_ble_eq_true rfl) (ent_id _)) rfl ?_
    refine TE_q rfl rfl (RD.build (v := lnkV (⟨(gt x.ents i).k, (gt x.ents i).id⟩ : Lnk)) rfl (fun w => by simp [Instr.build, Tryz.zeroValue46, Tryz.runUnderlying46, Tryz.sizeOf36, Tryz.sizeOf3, Value.cells, Instr.fill, lnkV, idV])) rfl ?_
    refine TE_buildSlice (cells := (cat lnkC [(⟨(gt x.ents i).k, (gt x.ents i).id⟩ : Lnk)] ++ []).toArray) rfl Tryz.runUnderlying70 Tryz.sizeOf46 Tryz.zeroValue46 rfl rfl rfl (by kernel_rfl) trivial rfl fun b20 hb20 => ?_
    refine TE_sp ((bldMx 46 (lnkC) (entsL (x.ents.take i)) st) ++ ((b20, .cells (cat lnkC [(⟨(gt x.ents i).k, (gt x.ents i).id⟩ : Lnk)] ++ []).toArray 46 (0, 0)) :: (b5, .cells (entV (gt x.ents i)).cells 97 (0, 0)) :: HX)) (fun a => by simp -failIfUnchanged <;> omega) ?_
    refine TE_appendX (st := st) (l := (entsL (x.ents.take i))) (ys := [(⟨(gt x.ents i).k, (gt x.ents i).id⟩ : Lnk)]) ((b20, .cells (cat lnkC [(⟨(gt x.ents i).k, (gt x.ents i).id⟩ : Lnk)] ++ []).toArray 46 (0, 0)) :: (b5, .cells (entV (gt x.ents i)).cells 97 (0, 0)) :: HX) lnkC_len lnkC_one rfl rfl rfl rfl trivial rfl Tryz.underlying70 el_lnk rfl rfl rfl hbost (Rdx.blk (enc := lnkC) (H := [(b20, .cells (cat lnkC [(⟨(gt x.ents i).k, (gt x.ents i).id⟩ : Lnk)] ++ []).toArray 46 (0, 0))]) (xs := [(⟨(gt x.ents i).k, (gt x.ents i).id⟩ : Lnk)]) (n := 1) (i := 0) (tl := []) (c := 1) lnkC_len rfl rfl (Nat.le_refl _)) (fun _ hw => hw.sp (fun a => by simp -failIfUnchanged <;> omega)) (by simp; omega) rfl hXst ?_
    intro st2 hbo3 hX4 _
    have hR6 : Rdx 33 (lnkC) (bldMx 46 (lnkC) ((entsL (x.ents.take i)) ++ [(⟨(gt x.ents i).k, (gt x.ents i).id⟩ : Lnk)]) st2) (bldVx ((entsL (x.ents.take i)) ++ [(⟨(gt x.ents i).k, (gt x.ents i).id⟩ : Lnk)]) st2) ((entsL (x.ents.take i)) ++ [(⟨(gt x.ents i).k, (gt x.ents i).id⟩ : Lnk)]) := hbo3.rdx (u := 46) lnkC_len
    refine TE_sp ((b20, .cells (cat lnkC [(⟨(gt x.ents i).k, (gt x.ents i).id⟩ : Lnk)] ++ []).toArray 46 (0, 0)) :: (b5, .cells (entV (gt x.ents i)).cells 97 (0, 0)) :: ((bldMx 46 (lnkC) ((entsL (x.ents.take i)) ++ [(⟨(gt x.ents i).k, (gt x.ents i).id⟩ : Lnk)]) st2) ++ HX)) (fun a => by simp -failIfUnchanged <;> omega) ?_
    refine TE_q rfl rfl (RD.assign rfl) rfl ?_
    refine TE_nil0 ?_
    refine pn_plainG [] ((bldMx 46 (lnkC) ((entsL (x.ents.take i)) ++ [(⟨(gt x.ents i).k, (gt x.ents i).id⟩ : Lnk)]) st2) ++ HX) rfl (fun a => by simp -failIfUnchanged <;> omega) ?_
    refine TE_q rfl rfl (RD.addI rfl rfl (by omega) (by omega)) rfl ?_
    refine TE_q rfl rfl (RD.move rfl) rfl ?_
    refine TE_nil0 ?_
    have he7 : ((entsL (x.ents.take i)) ++ [(⟨(gt x.ents i).k, (gt x.ents i).id⟩ : Lnk)]) = (entsL (x.ents.take (i + 1))) := (entsL_next (by omega))
    exact pn_againS ((i + 1), st2) ⟨(by omega), (by rw [← he7]; exact hbo3), (by rw [← he7]; exact hX4)⟩ (by dsimp only; omega) ⟨rfl, rfl, (congrArg (fun l => some (bldVx l st2)) he7), rfl, trivial⟩ (fun a => by (try simp only [← he7]); simp -failIfUnchanged <;> omega)
  · refine pn_exit ?_
    refine pn_seq ?_
    refine pn_plainG [] (bldMx 46 (lnkC) (entsL (x.ents.take i)) st) rfl (fun a => by simp -failIfUnchanged <;> omega) ?_
    refine TE_q rfl rfl (RD.move rfl) rfl ?_
    refine TE_q rfl rfl (RD.assign rfl) rfl ?_
    refine TE_nil0 ?_
    refine pn_ret ?_
    have he8 : (entsL (x.ents.take i)) = entsL x.ents := (congrArg entsL (take_all (by omega)))
    exact pn_doneS (bldMx 46 (lnkC) (entsL (x.ents.take i)) st) rfl rfl ⟨st, (by rw [← he8]; exact hbost), (by rw [← he8]; rfl), (by rw [← he8])⟩ (fun a => by simp -failIfUnchanged <;> omega) hXst

theorem c_commitLinks (x : Ob) (xd : Value) (xe : Value) (xp : Value) (HX : Mem) (w : World) (hbxd : Rdb HX xd x.data) (hbxe : Rdx 34 (entC) HX xe x.ents) (hbxp : Rdx 32 (idC) HX xp x.pars) (hox : ObOk x) (hH : Hp HX w) : Calls Tryz.prog 204 #[objV x xd xe xp] w (Ret w [] fun v H1 => ∃ st, BldOk 33 (lnkC) ((⟨2, x.t⟩ : Lnk) :: parsL x.pars) st ∧ v = bldVx ((⟨2, x.t⟩ : Lnk) :: parsL x.pars) st ∧ H1 = bldMx 46 (lnkC) ((⟨2, x.t⟩ : Lnk) :: parsL x.pars) st) := by
  have hw1 := hox.d; have hw2 := hox.e; have hw3 := hox.p; have hw4 := hox.m; have hwe := hox.en
  refine fn_enter (args := [_]) Tryz.func204 rfl Tryz.ntmps204 rfl hH ?_
  refine pn_seq ?_
  refine pn_plain [] rfl ?_
  refine TE_boxC (objV x xd xe xp).cells rfl rfl rfl trivial rfl fun b1 hb1 => ?_
  refine TE_q rfl rfl (RD.assign rfl) rfl ?_
  refine TE_nil0 ?_
  refine pn_seq ?_
  refine pn_plain [] rfl ?_
  refine TE_q rfl rfl (RD.fieldAddr (o := 0) Tryz.runUnderlying177 rfl rfl Tryz.sizeOf48 rfl) rfl ?_
  refine TE_q rfl rfl (RD.fieldAddr (o := 3) Tryz.runUnderlying48 rfl rfl Tryz.sizeOf36 rfl) rfl ?_
  refine TE_l rfl rfl trivial rfl (RD.loadA (i := 0) (v := idV x.t) Tryz.isAgg36 Tryz.sizeOf36 rfl rfl (Nat.le_of_ble_eq_true rfl) (obj_t _ _ _ _)) rfl ?_
  refine TE_q rfl rfl (RD.build (v := lnkV (⟨2, x.t⟩ : Lnk)) rfl (fun w => by simp [Instr.build, Tryz.zeroValue46, Tryz.runUnderlying46, Tryz.sizeOf36, Tryz.sizeOf3, Value.cells, Instr.fill, lnkV, idV])) rfl ?_
  refine TE_buildSlice (cells := (cat lnkC [(⟨2, x.t⟩ : Lnk)] ++ []).toArray) rfl Tryz.runUnderlying70 Tryz.sizeOf46 Tryz.zeroValue46 rfl rfl rfl (by kernel_rfl) trivial rfl fun b10 hb10 => ?_
  refine TE_q rfl rfl (RD.assign rfl) rfl ?_
  refine TE_nil0 ?_
  refine pn_seq ?_
  refine pn_seq ?_
  refine pn_plain [3] rfl ?_
  refine TE_q rfl rfl (RD.fieldAddr (o := 0) Tryz.runUnderlying177 rfl rfl Tryz.sizeOf48 rfl) rfl ?_
  refine TE_q rfl rfl (RD.fieldAddr (o := 35) Tryz.runUnderlying48 rfl rfl Tryz.sizeOf44 rfl) rfl ?_
  refine TE_l rfl rfl trivial rfl (RD.load (i := 1) (v := xp) Tryz.isAgg44 rfl rfl rfl) rfl ?_
  refine TE_q rfl rfl (RD.lenX Tryz.runUnderlying44 rfl hbxp) rfl ?_
  refine TE_q rfl rfl (RD.move rfl) rfl ?_
  refine TE_nil0 ?_
  refine pn_block ?_
  refine pn_sp ((b1, .cells (objV x xd xe xp).cells 177 (0, 0)) :: (b10, .cells (cat lnkC [(⟨2, x.t⟩ : Lnk)] ++ []).toArray 46 (0, 0)) :: HX) (fun a => by simp -failIfUnchanged <;> omega) ?_
  refine pn_sp ((b1, .cells (objV x xd xe xp).cells 177 (0, 0)) :: ((bldMx 46 (lnkC) [(⟨2, x.t⟩ : Lnk)] (some (b10, 1, []))) ++ HX)) (fun a => Nat.le_refl _) ?_
  have hbo2 : BldOk 33 (lnkC) [(⟨2, x.t⟩ : Lnk)] (some (b10, 1, [])) := ⟨Nat.le_refl _, by decide, by rw [List.append_nil]; exact cat_len lnkC_len _⟩
  have hR3 : Rdx 33 (lnkC) (bldMx 46 (lnkC) [(⟨2, x.t⟩ : Lnk)] (some (b10, 1, []))) (bldVx [(⟨2, x.t⟩ : Lnk)] (some (b10, 1, []))) [(⟨2, x.t⟩ : Lnk)] := hbo2.rdx (u := 46) lnkC_len
  refine pn_loopS (σ := Nat × SnkS) (fun q => [(13, xp), (14, .int .i64 (x.pars.length : Int)), (3, bldVx ((⟨2, x.t⟩ : Lnk) :: parsL (x.pars.take q.1)) q.2), (15, .int .i64 (q.1 : Int))]) (fun q => ((bldMx 46 (lnkC) ((⟨2, x.t⟩ : Lnk) :: parsL (x.pars.take q.1)) q.2) ++ HX)) (fun q => (q.1 ≤ x.pars.length) ∧ (BldOk 33 (lnkC) ((⟨2, x.t⟩ : Lnk) :: parsL (x.pars.take q.1)) q.2) ∧ (∀ e ∈ bldMx 46 (lnkC) ((⟨2, x.t⟩ : Lnk) :: parsL (x.pars.take q.1)) q.2, w.heap.size ≤ e.1 ∨ e.1 ∈ [])) (fun q => x.pars.length - q.1) (0, (some (b10, 1, []))) ⟨(by omega), hbo2, (bldx_all (fun k => w.heap.size ≤ k ∨ k ∈ []) (by rintro b cap tl ⟨⟩; exact .inl hb10))⟩ ⟨rfl, rfl, rfl, rfl, trivial⟩ (fun a => by simp -failIfUnchanged <;> omega) ?_
  rintro ⟨i, st⟩ ⟨hi, hbost, hXst⟩
  dsimp only at hi hbost hXst ⊢
  have hRst : Rdx 33 (lnkC) (bldMx 46 (lnkC) ((⟨2, x.t⟩ : Lnk) :: parsL (x.pars.take i)) st) (bldVx ((⟨2, x.t⟩ : Lnk) :: parsL (x.pars.take i)) st) ((⟨2, x.t⟩ : Lnk) :: parsL (x.pars.take i)) := hbost.rdx (u := 46) lnkC_len
  have hln := parsL_len (x.pars.take i)
  rw [List.length_take] at hln
  refine pn_seq ?_
  refine pn_plain [] rfl ?_
  refine TE_q rfl rfl (RD.lss rfl rfl) rfl ?_
  refine TE_nil0 ?_
  refine pn_seq ?_
  refine pn_condD rfl (fun hc4 => ?_) (fun hc4 => ?_)
  · refine pn_skip ?_
    refine pn_seq ?_
    refine pn_block ?_
    refine pn_seq ?_
    refine pn_plain [] rfl ?_
    refine TE_q rfl rfl (RD.idxR (i := i) (o := (i * 32 + 0)) Tryz.runUnderlying44 Tryz.sizeOf36 rfl hbxp rfl rfl (by omega) (by rfl)) rfl ?_
    refine TE_l rfl rfl trivial rfl (RD.ldRA (i := i) (j := 0) (vs := (idC (gt x.pars i))) Tryz.isAgg36 Tryz.sizeOf36 rfl hbxp (gt_some (by omega)) (by rfl) rfl (fun _ _ hu => by rw [Nat.zero_add]; exact hu) (idC_agg _) (fun _ hw => hw.sp (fun a => by simp -failIfUnchanged <;> omega))) rfl ?_
    refine TE_allocC (idV (fun _ => 0)).cells rfl Tryz.zeroValue36 rfl trivial rfl fun b5 hb5 => ?_
    refine TE_putCW 0 (idV (fun _ => 0)).cells (idV (gt x.pars i)).cells ((b5, .cells (idV (gt x.pars i)).cells 36 (0, 0)) :: ((bldMx 46 (lnkC) ((⟨2, x.t⟩ : Lnk) :: parsL (x.pars.take i)) st) ++ HX)) rfl Tryz.sizeOf36 trivial rfl rfl rfl rfl rfl rfl rfl rfl (.inl hb5) ?_
    refine TE_nil0 ?_
    refine pn_plain [] rfl ?_
    refine TE_q rfl rfl (RD.move rfl) rfl ?_
    refine TE_l rfl rfl trivial rfl (RD.loadA (i := 0) Tryz.isAgg36 Tryz.sizeOf36 rfl rfl (Nat.le_of_ble_eq_true rfl) (id_all _)) rfl ?_
    refine TE_q rfl rfl (RD.build (v := lnkV (⟨3, (gt x.pars i)⟩ : Lnk)) rfl (fun w => by simp [Instr.build, Tryz.zeroValue46, Tryz.runUnderlying46, Tryz.sizeOf36, Tryz.sizeOf3, Value.cells, Instr.fill, lnkV, idV])) rfl ?_
    refine TE_buildSlice (cells := (cat lnkC [(⟨3, (gt x.pars i)⟩ : Lnk)] ++ []).toArray) rfl Tryz.runUnderlying70 Tryz.sizeOf46 Tryz.zeroValue46 rfl rfl rfl (by kernel_rfl) trivial rfl fun b22 hb22 => ?_
    refine TE_sp ((bldMx 46 (lnkC) ((⟨2, x.t⟩ : Lnk) :: parsL (x.pars.take i)) st) ++ ((b22, .cells (cat lnkC [(⟨3, (gt x.pars i)⟩ : Lnk)] ++ []).toArray 46 (0, 0)) :: (b5, .cells (idV (gt x.pars i)).cells 36 (0, 0)) :: HX)) (fun a => by simp -failIfUnchanged <;> omega) ?_
    refine TE_appendX (st := st) (l := ((⟨2, x.t⟩ : Lnk) :: parsL (x.pars.take i))) (ys := [(⟨3, (gt x.pars i)⟩ : Lnk)]) ((b22, .cells (cat lnkC [(⟨3, (gt x.pars i)⟩ : Lnk)] ++ []).toArray 46 (0, 0)) :: (b5, .cells (idV (gt x.pars i)).cells 36 (0, 0)) :: HX) lnkC_len lnkC_one rfl rfl rfl rfl trivial rfl Tryz.underlying70 el_lnk rfl rfl rfl hbost (Rdx.blk (enc := lnkC) (H := [(b22, .cells (cat lnkC [(⟨3, (gt x.pars i)⟩ : Lnk)] ++ []).toArray 46 (0, 0))]) (xs := [(⟨3, (gt x.pars i)⟩ : Lnk)]) (n := 1) (i := 0) (tl := []) (c := 1) lnkC_len rfl rfl (Nat.le_refl _)) (fun _ hw => hw.sp (fun a => by simp -failIfUnchanged <;> omega)) (by simp; omega) rfl hXst ?_
    intro st5 hbo6 hX7 _
    have hR9 : Rdx 33 (lnkC) (bldMx 46 (lnkC) (((⟨2, x.t⟩ : Lnk) :: parsL (x.pars.take i)) ++ [(⟨3, (gt x.pars i)⟩ : Lnk)]) st5) (bldVx (((⟨2, x.t⟩ : Lnk) :: parsL (x.pars.take i)) ++ [(⟨3, (gt x.pars i)⟩ : Lnk)]) st5) (((⟨2, x.t⟩ : Lnk) :: parsL (x.pars.take i)) ++ [(⟨3, (gt x.pars i)⟩ : Lnk)]) := hbo6.rdx (u := 46) lnkC_len
    refine TE_sp ((b22, .cells (cat lnkC [(⟨3, (gt x.pars i)⟩ : Lnk)] ++ []).toArray 46 (0, 0)) :: (b5, .cells (idV (gt x.pars i)).cells 36 (0, 0)) :: ((bldMx 46 (lnkC) (((⟨2, x.t⟩ : Lnk) :: parsL (x.pars.take i)) ++ [(⟨3, (gt x.pars i)⟩ : Lnk)]) st5) ++ HX)) (fun a => by simp -failIfUnchanged <;> omega) ?_
    refine TE_q rfl rfl (RD.assign rfl) rfl ?_
    refine TE_nil0 ?_
    refine pn_plainG [] ((bldMx 46 (lnkC) (((⟨2, x.t⟩ : Lnk) :: parsL (x.pars.take i)) ++ [(⟨3, (gt x.pars i)⟩ : Lnk)]) st5) ++ HX) rfl (fun a => by simp -failIfUnchanged <;> omega) ?_
    refine TE_q rfl rfl (RD.addI rfl rfl (by omega) (by omega)) rfl ?_
    refine TE_q rfl rfl (RD.move rfl) rfl ?_
    refine TE_nil0 ?_
    have he10 : (((⟨2, x.t⟩ : Lnk) :: parsL (x.pars.take i)) ++ [(⟨3, (gt x.pars i)⟩ : Lnk)]) = ((⟨2, x.t⟩ : Lnk) :: parsL (x.pars.take (i + 1))) := (parsL_next (by omega))
    exact pn_againS ((i + 1), st5) ⟨(by omega), (by rw [← he10]; exact hbo6), (by rw [← he10]; exact hX7)⟩ (by dsimp only; omega) ⟨rfl, rfl, (congrArg (fun l => some (bldVx l st5)) he10), rfl, trivial⟩ (fun a => by (try simp only [← he10]); simp -failIfUnchanged <;> omega)
  · refine pn_exit ?_
    refine pn_seq ?_
    refine pn_plainG [] (bldMx 46 (lnkC) ((⟨2, x.t⟩ : Lnk) :: parsL (x.pars.take i)) st) rfl (fun a => by simp -failIfUnchanged <;> omega) ?_
    refine TE_q rfl rfl (RD.move rfl) rfl ?_
    refine TE_q rfl rfl (RD.assign rfl) rfl ?_
    refine TE_nil0 ?_
    refine pn_ret ?_
    have he11 : ((⟨2, x.t⟩ : Lnk) :: parsL (x.pars.take i)) = (⟨2, x.t⟩ : Lnk) :: parsL x.pars := (congrArg (fun l => (⟨2, x.t⟩ : Lnk) :: parsL l) (take_all (by omega)))
    exact pn_doneS (bldMx 46 (lnkC) ((⟨2, x.t⟩ : Lnk) :: parsL (x.pars.take i)) st) rfl rfl ⟨st, (by rw [← he11]; exact hbost), (by rw [← he11]; rfl), (by rw [← he11])⟩ (fun a => by simp -failIfUnchanged <;> omega) hXst

theorem c_tagLinks (x : Ob) (xd : Value) (xe : Value) (xp : Value) (HX : Mem) (w : World) (hbxd : Rdb HX xd x.data) (hbxe : Rdx 34 (entC) HX xe x.ents) (hbxp : Rdx 32 (idC) HX xp x.pars) (hox : ObOk x) (hH : Hp HX w) : Calls Tryz.prog 209 #[objV x xd xe xp] w (Ret w [] fun v H1 => ∃ st, BldOk 33 (lnkC) [x.tg] st ∧ v = bldVx [x.tg] st ∧ H1 = bldMx 46 (lnkC) [x.tg] st) := by
  refine fn_enter (args := [_]) Tryz.func209 rfl Tryz.ntmps209 rfl hH ?_
  refine pn_seq ?_
  refine pn_plain [] rfl ?_
  refine TE_boxC (objV x xd xe xp).cells rfl rfl rfl trivial rfl fun b1 hb1 => ?_
  refine TE_q rfl rfl (RD.assign rfl) rfl ?_
  refine TE_nil0 ?_
  refine pn_seq ?_
  refine pn_plain [] rfl ?_
  refine TE_q rfl rfl (RD.fieldAddr (o := 0) Tryz.runUnderlying178 rfl rfl Tryz.sizeOf48 rfl) rfl ?_
  refine TE_q rfl rfl (RD.fieldAddr (o := 36) Tryz.runUnderlying48 rfl rfl Tryz.sizeOf46 rfl) rfl ?_
  refine TE_l rfl rfl trivial rfl (RD.loadA (i := 0) (v := lnkV x.tg) Tryz.isAgg46 Tryz.sizeOf46 rfl rfl (Nat.le_of_ble_eq_true rfl) (obj_tg _ _ _ _)) rfl ?_
  refine TE_buildSlice (cells := (cat lnkC [x.tg] ++ []).toArray) rfl Tryz.runUnderlying70 Tryz.sizeOf46 Tryz.zeroValue46 rfl rfl rfl (by kernel_rfl) trivial rfl fun b6 hb6 => ?_
  refine TE_q rfl rfl (RD.assign rfl) rfl ?_
  refine TE_nil0 ?_
  refine pn_ret ?_
  refine pn_sp ((b1, .cells (objV x xd xe xp).cells 178 (0, 0)) :: (b6, .cells (cat lnkC [x.tg] ++ []).toArray 46 (0, 0)) :: HX) (fun a => by simp -failIfUnchanged <;> omega) ?_
  refine pn_sp ((b1, .cells (objV x xd xe xp).cells 178 (0, 0)) :: ((bldMx 46 (lnkC) [x.tg] (some (b6, 1, []))) ++ HX)) (fun a => Nat.le_refl _) ?_
  have hbo2 : BldOk 33 (lnkC) [x.tg] (some (b6, 1, [])) := ⟨Nat.le_refl _, by decide, by rw [List.append_nil]; exact cat_len lnkC_len _⟩
  have hR3 : Rdx 33 (lnkC) (bldMx 46 (lnkC) [x.tg] (some (b6, 1, []))) (bldVx [x.tg] (some (b6, 1, []))) [x.tg] := hbo2.rdx (u := 46) lnkC_len
  exact pn_doneS (bldMx 46 (lnkC) [x.tg] (some (b6, 1, []))) rfl rfl ⟨(some (b6, 1, [])), hbo2, rfl, rfl⟩ (fun a => by simp -failIfUnchanged <;> omega) (bldx_all (fun k => w.heap.size ≤ k ∨ k ∈ []) (by rintro b cap tl ⟨⟩; exact .inl hb6))

theorem c_of7 (x : Ob) (xd : Value) (xe : Value) (xp : Value) (HX : Mem) (w : World) (hbxd : Rdb HX xd x.data) (hbxe : Rdx 34 (entC) HX xe x.ents) (hbxp : Rdx 32 (idC) HX xp x.pars) (hox : ObOk x) (hH : Hp HX w) : Calls Tryz.prog 61 #[objV x xd xe xp] w (Ret w [] fun v H1 => (x.k = 1 ∧ v = .tuple #[.iface 175 (objV x xd xe xp), .bool true] ∧ H1 = []) ∨ (x.k = 2 ∧ v = .tuple #[.iface 176 (objV x xd xe xp), .bool true] ∧ H1 = []) ∨ (x.k = 3 ∧ v = .tuple #[.iface 177 (objV x xd xe xp), .bool true] ∧ H1 = []) ∨ (x.k = 4 ∧ v = .tuple #[.iface 178 (objV x xd xe xp), .bool true] ∧ H1 = []) ∨ (((¬ x.k = 1 ∧ ¬ x.k = 2) ∧ ¬ x.k = 3) ∧ ¬ x.k = 4) ∧ v = .tuple #[.nilIface, .bool false] ∧ H1 = []) := by
  refine fn_enter (args := [_]) Tryz.func61 rfl Tryz.ntmps61 rfl hH ?_
  refine pn_seq ?_
  refine pn_plain [] rfl ?_
  refine TE_boxC (objV x xd xe xp).cells rfl rfl rfl trivial rfl fun b1 hb1 => ?_
  refine TE_q rfl rfl (RD.assign rfl) rfl ?_
  refine TE_q rfl rfl (RD.assign rfl) rfl ?_
  refine TE_nil0 ?_
  refine pn_seq ?_
  refine pn_seq ?_
  refine pn_plain [] rfl ?_
  refine TE_q rfl rfl (RD.fieldAddr (o := 0) Tryz.runUnderlying48 rfl rfl Tryz.sizeOf3 rfl) rfl ?_
  refine TE_l rfl rfl trivial rfl (RD.load (i := 0) (v := .int .i64 x.k) Tryz.isAgg3 rfl rfl rfl) rfl ?_
  refine TE_nil0 ?_
  refine pn_block ?_
  refine pn_seq ?_
  refine pn_plain [] rfl ?_
  refine TE_q rfl rfl (RD.eql rfl rfl) rfl ?_
  refine TE_q rfl rfl (RD.assign rfl) rfl ?_
  refine TE_nil0 ?_
  refine pn_condD rfl (fun hc1 => ?_) (fun hc1 => ?_)
  · refine pn_seq ?_
    refine pn_plain [] rfl ?_
    refine TE_l rfl rfl trivial rfl (RD.loadA (i := 0) Tryz.isAgg48 Tryz.sizeOf48 rfl rfl (Nat.le_of_ble_eq_true rfl) (obj_all _ _ _ _)) rfl ?_
    refine TE_q rfl rfl (RD.build (v := objV x xd xe xp) rfl (bd_object_blob x xd xe xp)) rfl ?_
    refine TE_q rfl rfl (RD.mkIface Tryz.underlying175 (fun _ h => nomatch h) rfl) rfl ?_
    refine TE_q rfl rfl (RD.assign rfl) rfl ?_
    refine TE_q rfl rfl (RD.assign rfl) rfl ?_
    refine TE_nil0 ?_
    refine pn_ret ?_
    exact pn_doneS [] rfl rfl (.inl ⟨hc1, rfl, rfl⟩) (fun _ => Nat.zero_le _) (fun _ he => nomatch he)
  · refine pn_seq ?_
    refine pn_plain [] rfl ?_
    refine TE_q rfl rfl (RD.eql rfl rfl) rfl ?_
    refine TE_q rfl rfl (RD.assign rfl) rfl ?_
    refine TE_nil0 ?_
    refine pn_condD rfl (fun hc2 => ?_) (fun hc2 => ?_)
    · refine pn_seq ?_
      refine pn_plain [] rfl ?_
      refine TE_l rfl rfl trivial rfl (RD.loadA (i := 0) Tryz.isAgg48 Tryz.sizeOf48 rfl rfl (Nat.le_of_ble_eq_true rfl) (obj_all _ _ _ _)) rfl ?_
      refine TE_q rfl rfl (RD.build (v := objV x xd xe xp) rfl (bd_object_tree x xd xe xp)) rfl ?_
      refine TE_q rfl rfl (RD.mkIface Tryz.underlying176 (fun _ h => nomatch h) rfl) rfl ?_
      refine TE_q rfl rfl (RD.assign rfl) rfl ?_
      refine TE_q rfl rfl (RD.assign rfl) rfl ?_
      refine TE_nil0 ?_
      refine pn_ret ?_
      exact pn_doneS [] rfl rfl (.inr (.inl ⟨hc2, rfl, rfl⟩)) (fun _ => Nat.zero_le _) (fun _ he => nomatch he)
    · refine pn_seq ?_
      refine pn_plain [] rfl ?_
      refine TE_q rfl rfl (RD.eql rfl rfl) rfl ?_
      refine TE_q rfl rfl (RD.assign rfl) rfl ?_
      refine TE_nil0 ?_
      refine pn_condD rfl (fun hc3 => ?_) (fun hc3 => ?_)
      · refine pn_seq ?_
        refine pn_plain [] rfl ?_
        refine TE_l rfl rfl trivial rfl (RD.loadA (i := 0) Tryz.isAgg48 Tryz.sizeOf48 rfl rfl (Nat.le_of_ble_eq_true rfl) (obj_all _ _ _ _)) rfl ?_
        refine TE_q rfl rfl (RD.build (v := objV x xd xe xp) rfl (bd_object_commit x xd xe xp)) rfl ?_
        refine TE_q rfl rfl (RD.mkIface Tryz.underlying177 (fun _ h => nomatch h) rfl) rfl ?_
        refine TE_q rfl rfl (RD.assign rfl) rfl ?_
        refine TE_q rfl rfl (RD.assign rfl) rfl ?_
        refine TE_nil0 ?_
        refine pn_ret ?_
        exact pn_doneS [] rfl rfl (.inr (.inr (.inl ⟨hc3, rfl, rfl⟩))) (fun _ => Nat.zero_le _) (fun _ he => nomatch he)
      · refine pn_seq ?_
        refine pn_plain [] rfl ?_
        refine TE_q rfl rfl (RD.eql rfl rfl) rfl ?_
        refine TE_q rfl rfl (RD.assign rfl) rfl ?_
        refine TE_nil0 ?_
        refine pn_condD rfl (fun hc4 => ?_) (fun hc4 => ?_)
        · refine pn_seq ?_
          refine pn_plain [] rfl ?_
          refine TE_l rfl rfl trivial rfl (RD.loadA (i := 0) Tryz.isAgg48 Tryz.sizeOf48 rfl rfl (Nat.le_of_ble_eq_true rfl) (obj_all _ _ _ _)) rfl ?_
          refine TE_q rfl rfl (RD.build (v := objV x xd xe xp) rfl (bd_object_tag x xd xe xp)) rfl ?_
          refine TE_q rfl rfl (RD.mkIface Tryz.underlying178 (fun _ h => nomatch h) rfl) rfl ?_
          refine TE_q rfl rfl (RD.assign rfl) rfl ?_
          refine TE_q rfl rfl (RD.assign rfl) rfl ?_
          refine TE_nil0 ?_
          refine pn_ret ?_
          exact pn_doneS [] rfl rfl (.inr (.inr (.inr (.inl ⟨hc4, rfl, rfl⟩)))) (fun _ => Nat.zero_le _) (fun _ he => nomatch he)
        · refine pn_skip ?_
          refine pn_seq ?_
          refine pn_plainG [] [] rfl (fun a => by simp -failIfUnchanged <;> omega) ?_
          refine TE_q rfl rfl (RD.assign rfl) rfl ?_
          refine TE_q rfl rfl (RD.assign rfl) rfl ?_
          refine TE_nil0 ?_
          refine pn_ret ?_
          exact pn_doneS [] rfl rfl (.inr (.inr (.inr (.inr ⟨⟨⟨⟨hc1, hc2⟩, hc3⟩, hc4⟩, rfl, rfl⟩)))) (fun _ => Nat.zero_le _) (fun _ he => nomatch he)

theorem c_obSame (x : Ob) (xd : Value) (xe : Value) (xp : Value) (y : Ob) (yd : Value) (ye : Value) (yp : Value) (HX : Mem) (w : World) (hbxd : Rdb HX xd x.data) (hbxe : Rdx 34 (entC) HX xe x.ents) (hbxp : Rdx 32 (idC) HX xp x.pars) (hbyd : Rdb HX yd y.data) (hbye : Rdx 34 (entC) HX ye y.ents) (hbyp : Rdx 32 (idC) HX yp y.pars) (hxl : x.ents.length ≤ 1000000 ∧ x.pars.length ≤ 1000000) (hyl : y.ents.length ≤ 1000000 ∧ y.pars.length ≤ 1000000) (hH : Hp HX w) : Calls Tryz.prog 36 #[objV x xd xe xp, objV y yd ye yp] w (Ret w [] fun v H1 => v = .bool (obSame x y) ∧ H1 = []) := by
  have hx1 := hxl.1; have hx2 := hxl.2; have hy1 := hyl.1; have hy2 := hyl.2
  refine fn_enter (args := [_, _]) Tryz.func36 rfl Tryz.ntmps36 rfl hH ?_
  refine pn_seq ?_
  refine pn_plain [] rfl ?_
  refine TE_boxC (objV x xd xe xp).cells rfl rfl rfl trivial rfl fun b2 hb2 => ?_
  refine TE_boxC (objV y yd ye yp).cells rfl rfl rfl trivial rfl fun b3 hb3 => ?_
  refine TE_q rfl rfl (RD.assign rfl) rfl ?_
  refine TE_nil0 ?_
  refine pn_seq ?_
  refine pn_plain [] rfl ?_
  refine TE_q rfl rfl (RD.fieldAddr (o := 0) Tryz.runUnderlying48 rfl rfl Tryz.sizeOf3 rfl) rfl ?_
  refine TE_l rfl rfl trivial rfl (RD.load (i := 1) (v := .int .i64 x.k) Tryz.isAgg3 rfl rfl rfl) rfl ?_
  refine TE_q rfl rfl (RD.fieldAddr (o := 0) Tryz.runUnderlying48 rfl rfl Tryz.sizeOf3 rfl) rfl ?_
  refine TE_l rfl rfl trivial rfl (RD.load (i := 0) (v := .int .i64 y.k) Tryz.isAgg3 rfl rfl rfl) rfl ?_
  refine TE_q rfl rfl (RD.eql rfl rfl) rfl ?_
  refine TE_q rfl rfl (RD.move rfl) rfl ?_
  refine TE_join (σ := Unit) (fun _ => [(4, .bool ((decide (x.k = y.k)) && ((decide (x.data = y.data)) && ((sameGL same_ent x.ents y.ents) && ((sameN 32 x.t y.t) && ((sameIL x.pars y.pars) && ((same_lnk x.tg y.tg) && (decide (x.m = y.m)))))))))]) (fun _ => ((b3, .cells (objV y yd ye yp).cells 48 (0, 0)) :: (b2, .cells (objV x xd xe xp).cells 48 (0, 0)) :: HX)) (fun _ => True) ?_ ?_
  · refine TE_dec (fun hf1 => ?_) (fun hf1 => ?_)
    · refine TE_gq rfl rfl rfl rfl (RD.fieldAddr (o := 1) Tryz.runUnderlying48 rfl rfl Tryz.sizeOf32 rfl) rfl ?_
      refine TE_l rfl rfl ⟨_, rfl, rfl⟩ rfl (RD.load (i := 1) (v := xd) Tryz.isAgg32 rfl rfl rfl) rfl ?_
      refine TE_gq rfl rfl rfl rfl (RD.fieldAddr (o := 1) Tryz.runUnderlying48 rfl rfl Tryz.sizeOf32 rfl) rfl ?_
      refine TE_l rfl rfl ⟨_, rfl, rfl⟩ rfl (RD.load (i := 0) (v := yd) Tryz.isAgg32 rfl rfl rfl) rfl ?_
      refine TE_callG _ HX rfl rfl ⟨_, rfl, rfl⟩ Tryz.call78 rfl rfl rfl (fun w hw => c_bytesEqual xd x.data yd y.data HX w (hbxd.mono (fun _ hw => hw.sp (fun a => by simp -failIfUnchanged <;> omega))) (hbyd.mono (fun _ hw => hw.sp (fun a => by simp -failIfUnchanged <;> omega))) (hw.sp (fun a => by simp -failIfUnchanged <;> omega))) (fun a => by simp -failIfUnchanged <;> omega) ?_
      rintro v2 H3 ⟨rfl, rfl⟩ -
      refine TE_q rfl rfl (RD.pickT rfl rfl) rfl ?_
      refine TE_q rfl rfl (RD.move rfl) rfl ?_
      refine TE_dec (fun hf4 => ?_) (fun hf4 => ?_)
      · refine TE_gq rfl rfl rfl rfl (RD.fieldAddr (o := 2) Tryz.runUnderlying48 rfl rfl Tryz.sizeOf43 rfl) rfl ?_
        refine TE_l rfl rfl ⟨_, rfl, rfl⟩ rfl (RD.load (i := 1) (v := xe) Tryz.isAgg43 rfl rfl rfl) rfl ?_
        refine TE_gq rfl rfl rfl rfl (RD.fieldAddr (o := 2) Tryz.runUnderlying48 rfl rfl Tryz.sizeOf43 rfl) rfl ?_
        refine TE_l rfl rfl ⟨_, rfl, rfl⟩ rfl (RD.load (i := 0) (v := ye) Tryz.isAgg43 rfl rfl rfl) rfl ?_
        refine TE_callG _ HX rfl rfl ⟨_, rfl, rfl⟩ Tryz.call79 rfl rfl rfl (fun w hw => c_equalE xe x.ents ye y.ents HX w (hbxe.mono (fun _ hw => hw.sp (fun a => by simp -failIfUnchanged <;> omega))) (by first | assumption | omega | (simp; done) | (simp; omega)) (hbye.mono (fun _ hw => hw.sp (fun a => by simp -failIfUnchanged <;> omega))) (by first | assumption | omega | (simp; done) | (simp; omega)) (hw.sp (fun a => by simp -failIfUnchanged <;> omega))) (fun a => by simp -failIfUnchanged <;> omega) ?_
        rintro v5 H6 ⟨rfl, rfl⟩ -
        refine TE_q rfl rfl (RD.pickT rfl rfl) rfl ?_
        refine TE_q rfl rfl (RD.move rfl) rfl ?_
        refine TE_bool (fun hf7 => ?_) (fun hf7 => ?_)
        · refine TE_gq rfl rfl rfl rfl (RD.fieldAddr (o := 3) Tryz.runUnderlying48 rfl rfl Tryz.sizeOf36 rfl) rfl ?_
          refine TE_l rfl rfl ⟨_, rfl, rfl⟩ rfl (RD.loadA (i := 1) (v := idV x.t) Tryz.isAgg36 Tryz.sizeOf36 rfl rfl (Nat.le_of_ble_eq_true rfl) (obj_t _ _ _ _)) rfl ?_
          refine TE_gq rfl rfl rfl rfl (RD.fieldAddr (o := 3) Tryz.runUnderlying48 rfl rfl Tryz.sizeOf36 rfl) rfl ?_
          refine TE_l rfl rfl ⟨_, rfl, rfl⟩ rfl (RD.loadA (i := 0) (v := idV y.t) Tryz.isAgg36 Tryz.sizeOf36 rfl rfl (Nat.le_of_ble_eq_true rfl) (obj_t _ _ _ _)) rfl ?_
          refine TE_gq rfl rfl rfl rfl (RD.eql_agg Tryz.eqGuardType36 (eq_id x.t y.t) rfl rfl) rfl ?_
          refine TE_q rfl rfl (RD.pickT rfl rfl) rfl ?_
          refine TE_q rfl rfl (RD.move rfl) rfl ?_
          refine TE_bool (fun hf8 => ?_) (fun hf8 => ?_)
          · refine TE_gq rfl rfl rfl rfl (RD.fieldAddr (o := 35) Tryz.runUnderlying48 rfl rfl Tryz.sizeOf44 rfl) rfl ?_
            refine TE_l rfl rfl ⟨_, rfl, rfl⟩ rfl (RD.load (i := 1) (v := xp) Tryz.isAgg44 rfl rfl rfl) rfl ?_
            refine TE_gq rfl rfl rfl rfl (RD.fieldAddr (o := 35) Tryz.runUnderlying48 rfl rfl Tryz.sizeOf44 rfl) rfl ?_
            refine TE_l rfl rfl ⟨_, rfl, rfl⟩ rfl (RD.load (i := 0) (v := yp) Tryz.isAgg44 rfl rfl rfl) rfl ?_
            refine TE_callG _ HX rfl rfl ⟨_, rfl, rfl⟩ Tryz.call80 rfl rfl rfl (fun w hw => c_equalI xp x.pars yp y.pars HX w (hbxp.mono (fun _ hw => hw.sp (fun a => by simp -failIfUnchanged <;> omega))) (by first | assumption | omega | (simp; done) | (simp; omega)) (hbyp.mono (fun _ hw => hw.sp (fun a => by simp -failIfUnchanged <;> omega))) (by first | assumption | omega | (simp; done) | (simp; omega)) (hw.sp (fun a => by simp -failIfUnchanged <;> omega))) (fun a => by simp -failIfUnchanged <;> omega) ?_
            rintro v9 H10 ⟨rfl, rfl⟩ -
            refine TE_q rfl rfl (RD.pickT rfl rfl) rfl ?_
            refine TE_q rfl rfl (RD.move rfl) rfl ?_
            refine TE_bool (fun hf11 => ?_) (fun hf11 => ?_)
            · refine TE_gq rfl rfl rfl rfl (RD.fieldAddr (o := 36) Tryz.runUnderlying48 rfl rfl Tryz.sizeOf46 rfl) rfl ?_
              refine TE_l rfl rfl ⟨_, rfl, rfl⟩ rfl (RD.loadA (i := 1) (v := lnkV x.tg) Tryz.isAgg46 Tryz.sizeOf46 rfl rfl (Nat.le_of_ble_eq_true rfl) (obj_tg _ _ _ _)) rfl ?_
              refine TE_gq rfl rfl rfl rfl (RD.fieldAddr (o := 36) Tryz.runUnderlying48 rfl rfl Tryz.sizeOf46 rfl) rfl ?_
              refine TE_l rfl rfl ⟨_, rfl, rfl⟩ rfl (RD.loadA (i := 0) (v := lnkV y.tg) Tryz.isAgg46 Tryz.sizeOf46 rfl rfl (Nat.le_of_ble_eq_true rfl) (obj_tg _ _ _ _)) rfl ?_
              refine TE_gq rfl rfl rfl rfl (RD.eql_agg Tryz.eqGuardType46 (eq_lnk x.tg y.tg) rfl rfl) rfl ?_
              refine TE_q rfl rfl (RD.pickT rfl rfl) rfl ?_
              refine TE_q rfl rfl (RD.move rfl) rfl ?_
              refine TE_bool (fun hf12 => ?_) (fun hf12 => ?_)
              · refine TE_gq rfl rfl rfl rfl (RD.fieldAddr (o := 69) Tryz.runUnderlying48 rfl rfl Tryz.sizeOf9 rfl) rfl ?_
                refine TE_l rfl rfl ⟨_, rfl, rfl⟩ rfl (RD.load (i := 1) (v := .string x.m) Tryz.isAgg9 rfl rfl rfl) rfl ?_
                refine TE_gq rfl rfl rfl rfl (RD.fieldAddr (o := 69) Tryz.runUnderlying48 rfl rfl Tryz.sizeOf9 rfl) rfl ?_
                refine TE_l rfl rfl ⟨_, rfl, rfl⟩ rfl (RD.load (i := 0) (v := .string y.m) Tryz.isAgg9 rfl rfl rfl) rfl ?_
                refine TE_gq rfl rfl rfl rfl (RD.eql_string rfl rfl) rfl ?_
                refine TE_q rfl rfl (RD.pickT rfl rfl) rfl ?_
                refine TE_q rfl rfl (RD.assign rfl) rfl ?_
                refine TE_nil0 ?_
                exact pn_give () trivial ⟨congrArg (fun b => some (Value.bool b)) (by first | (simp [hf1, hf4, hf7, hf8, hf11, hf12]; done) | (simp only [decide_eq_true hf1, decide_eq_true hf4, hf7, hf8, hf11, hf12]; rfl) | (simp only [decide_eq_true hf1, decide_eq_true hf4, hf7, hf8, hf11, hf12]; simp; done)), trivial⟩ (fun _ hw => hw.sp (fun a => by simp -failIfUnchanged <;> omega))
              · refine TE_s rfl rfl rfl rfl rfl ?_
                refine TE_s rfl rfl rfl rfl rfl ?_
                refine TE_s rfl rfl rfl rfl rfl ?_
                refine TE_s rfl rfl rfl rfl rfl ?_
                refine TE_s rfl rfl rfl rfl rfl ?_
                refine TE_q rfl rfl (RD.pickF rfl rfl) rfl ?_
                refine TE_q rfl rfl (RD.assign rfl) rfl ?_
                refine TE_nil0 ?_
                exact pn_give () trivial ⟨congrArg (fun b => some (Value.bool b)) (by first | (simp [hf1, hf4, hf7, hf8, hf11, hf12]; done) | (simp only [decide_eq_true hf1, decide_eq_true hf4, hf7, hf8, hf11, hf12]; rfl) | (simp only [decide_eq_true hf1, decide_eq_true hf4, hf7, hf8, hf11, hf12]; simp; done)), trivial⟩ (fun _ hw => hw.sp (fun a => by simp -failIfUnchanged <;> omega))
            · refine TE_s rfl rfl rfl rfl rfl ?_
              refine TE_s rfl rfl rfl rfl rfl ?_
              refine TE_s rfl rfl rfl rfl rfl ?_
              refine TE_s rfl rfl rfl rfl rfl ?_
              refine TE_s rfl rfl rfl rfl rfl ?_
              refine TE_q rfl rfl (RD.pickF rfl rfl) rfl ?_
              refine TE_q rfl rfl (RD.move rfl) rfl ?_
              refine TE_s rfl rfl rfl rfl rfl ?_
              refine TE_s rfl rfl rfl rfl rfl ?_
              refine TE_s rfl rfl rfl rfl rfl ?_
              refine TE_s rfl rfl rfl rfl rfl ?_
              refine TE_s rfl rfl rfl rfl rfl ?_
              refine TE_q rfl rfl (RD.pickF rfl rfl) rfl ?_
              refine TE_q rfl rfl (RD.assign rfl) rfl ?_
              refine TE_nil0 ?_
              exact pn_give () trivial ⟨congrArg (fun b => some (Value.bool b)) (by first | (simp [hf1, hf4, hf7, hf8, hf11]; done) | (simp only [decide_eq_true hf1, decide_eq_true hf4, hf7, hf8, hf11]; rfl) | (simp only [decide_eq_true hf1, decide_eq_true hf4, hf7, hf8, hf11]; simp; done)), trivial⟩ (fun _ hw => hw.sp (fun a => by simp -failIfUnchanged <;> omega))
          · refine TE_s rfl rfl rfl rfl rfl ?_
            refine TE_s rfl rfl rfl rfl rfl ?_
            refine TE_s rfl rfl rfl rfl rfl ?_
            refine TE_s rfl rfl rfl rfl rfl ?_
            refine TE_s rfl rfl rfl rfl rfl ?_
            refine TE_q rfl rfl (RD.pickF rfl rfl) rfl ?_
            refine TE_q rfl rfl (RD.move rfl) rfl ?_
            refine TE_s rfl rfl rfl rfl rfl ?_
            refine TE_s rfl rfl rfl rfl rfl ?_
            refine TE_s rfl rfl rfl rfl rfl ?_
            refine TE_s rfl rfl rfl rfl rfl ?_
            refine TE_s rfl rfl rfl rfl rfl ?_
            refine TE_q rfl rfl (RD.pickF rfl rfl) rfl ?_
            refine TE_q rfl rfl (RD.move rfl) rfl ?_
            refine TE_s rfl rfl rfl rfl rfl ?_
            refine TE_s rfl rfl rfl rfl rfl ?_
            refine TE_s rfl rfl rfl rfl rfl ?_
            refine TE_s rfl rfl rfl rfl rfl ?_
            refine TE_s rfl rfl rfl rfl rfl ?_
            refine TE_q rfl rfl (RD.pickF rfl rfl) rfl ?_
            refine TE_q rfl rfl (RD.assign rfl) rfl ?_
            refine TE_nil0 ?_
            exact pn_give () trivial ⟨congrArg (fun b => some (Value.bool b)) (by first | (simp [hf1, hf4, hf7, hf8]; done) | (simp only [decide_eq_true hf1, decide_eq_true hf4, hf7, hf8]; rfl) | (simp only [decide_eq_true hf1, decide_eq_true hf4, hf7, hf8]; simp; done)), trivial⟩ (fun _ hw => hw.sp (fun a => by simp -failIfUnchanged <;> omega))
        · refine TE_s rfl rfl rfl rfl rfl ?_
          refine TE_s rfl rfl rfl rfl rfl ?_
          refine TE_s rfl rfl rfl rfl rfl ?_
          refine TE_s rfl rfl rfl rfl rfl ?_
          refine TE_s rfl rfl rfl rfl rfl ?_
          refine TE_q rfl rfl (RD.pickF rfl rfl) rfl ?_
          refine TE_q rfl rfl (RD.move rfl) rfl ?_
          refine TE_s rfl rfl rfl rfl rfl ?_
          refine TE_s rfl rfl rfl rfl rfl ?_
          refine TE_s rfl rfl rfl rfl rfl ?_
          refine TE_s rfl rfl rfl rfl rfl ?_
          refine TE_s rfl rfl rfl rfl rfl ?_
          refine TE_q rfl rfl (RD.pickF rfl rfl) rfl ?_
          refine TE_q rfl rfl (RD.move rfl) rfl ?_
          refine TE_s rfl rfl rfl rfl rfl ?_
          refine TE_s rfl rfl rfl rfl rfl ?_
          refine TE_s rfl rfl rfl rfl rfl ?_
          refine TE_s rfl rfl rfl rfl rfl ?_
          refine TE_s rfl rfl rfl rfl rfl ?_
          refine TE_q rfl rfl (RD.pickF rfl rfl) rfl ?_
          refine TE_q rfl rfl (RD.move rfl) rfl ?_
          refine TE_s rfl rfl rfl rfl rfl ?_
          refine TE_s rfl rfl rfl rfl rfl ?_
          refine TE_s rfl rfl rfl rfl rfl ?_
          refine TE_s rfl rfl rfl rfl rfl ?_
          refine TE_s rfl rfl rfl rfl rfl ?_
          refine TE_q rfl rfl (RD.pickF rfl rfl) rfl ?_
          refine TE_q rfl rfl (RD.assign rfl) rfl ?_
          refine TE_nil0 ?_
          exact pn_give () trivial ⟨congrArg (fun b => some (Value.bool b)) (by first | (simp [hf1, hf4, hf7]; done) | (simp only [decide_eq_true hf1, decide_eq_true hf4, hf7]; rfl) | (simp only [decide_eq_true hf1, decide_eq_true hf4, hf7]; simp; done)), trivial⟩ (fun _ hw => hw.sp (fun a => by simp -failIfUnchanged <;> omega))
      · refine TE_s rfl rfl rfl rfl rfl ?_
        refine TE_s rfl rfl rfl rfl rfl ?_
        refine TE_s rfl rfl rfl rfl rfl ?_
        refine TE_s rfl rfl rfl rfl rfl ?_
        refine TE_s rfl rfl rfl rfl rfl ?_
        refine TE_q rfl rfl (RD.pickF rfl rfl) rfl ?_
        refine TE_q rfl rfl (RD.move rfl) rfl ?_
        refine TE_s rfl rfl rfl rfl rfl ?_
        refine TE_s rfl rfl rfl rfl rfl ?_
        refine TE_s rfl rfl rfl rfl rfl ?_
        refine TE_s rfl rfl rfl rfl rfl ?_
        refine TE_s rfl rfl rfl rfl rfl ?_
        refine TE_q rfl rfl (RD.pickF rfl rfl) rfl ?_
        refine TE_q rfl rfl (RD.move rfl) rfl ?_
        refine TE_s rfl rfl rfl rfl rfl ?_
        refine TE_s rfl rfl rfl rfl rfl ?_
        refine TE_s rfl rfl rfl rfl rfl ?_
        refine TE_s rfl rfl rfl rfl rfl ?_
        refine TE_s rfl rfl rfl rfl rfl ?_
        refine TE_q rfl rfl (RD.pickF rfl rfl) rfl ?_
        refine TE_q rfl rfl (RD.move rfl) rfl ?_
        refine TE_s rfl rfl rfl rfl rfl ?_
        refine TE_s rfl rfl rfl rfl rfl ?_
        refine TE_s rfl rfl rfl rfl rfl ?_
        refine TE_s rfl rfl rfl rfl rfl ?_
        refine TE_s rfl rfl rfl rfl rfl ?_
        refine TE_q rfl rfl (RD.pickF rfl rfl) rfl ?_
        refine TE_q rfl rfl (RD.move rfl) rfl ?_
        refine TE_s rfl rfl rfl rfl rfl ?_
        refine TE_s rfl rfl rfl rfl rfl ?_
        refine TE_s rfl rfl rfl rfl rfl ?_
        refine TE_s rfl rfl rfl rfl rfl ?_
        refine TE_s rfl rfl rfl rfl rfl ?_
        refine TE_q rfl rfl (RD.pickF rfl rfl) rfl ?_
        refine TE_q rfl rfl (RD.assign rfl) rfl ?_
        refine TE_nil0 ?_
        exact pn_give () trivial ⟨congrArg (fun b => some (Value.bool b)) (by first | (simp [hf1, hf4]; done) | (simp only [decide_eq_true hf1, decide_eq_false hf4]; rfl) | (simp only [decide_eq_true hf1, decide_eq_false hf4]; simp; done)), trivial⟩ (fun _ hw => hw.sp (fun a => by simp -failIfUnchanged <;> omega))
    · refine TE_s rfl rfl rfl rfl rfl ?_
      refine TE_s rfl rfl rfl rfl rfl ?_
      refine TE_s rfl rfl rfl rfl rfl ?_
      refine TE_s rfl rfl rfl rfl rfl ?_
      refine TE_s rfl rfl rfl rfl rfl ?_
      refine TE_q rfl rfl (RD.pickF rfl rfl) rfl ?_
      refine TE_q rfl rfl (RD.move rfl) rfl ?_
      refine TE_s rfl rfl rfl rfl rfl ?_
      refine TE_s rfl rfl rfl rfl rfl ?_
      refine TE_s rfl rfl rfl rfl rfl ?_
      refine TE_s rfl rfl rfl rfl rfl ?_
      refine TE_s rfl rfl rfl rfl rfl ?_
      refine TE_q rfl rfl (RD.pickF rfl rfl) rfl ?_
      refine TE_q rfl rfl (RD.move rfl) rfl ?_
      refine TE_s rfl rfl rfl rfl rfl ?_
      refine TE_s rfl rfl rfl rfl rfl ?_
      refine TE_s rfl rfl rfl rfl rfl ?_
      refine TE_s rfl rfl rfl rfl rfl ?_
      refine TE_s rfl rfl rfl rfl rfl ?_
      refine TE_q rfl rfl (RD.pickF rfl rfl) rfl ?_
      refine TE_q rfl rfl (RD.move rfl) rfl ?_
      refine TE_s rfl rfl rfl rfl rfl ?_
      refine TE_s rfl rfl rfl rfl rfl ?_
      refine TE_s rfl rfl rfl rfl rfl ?_
      refine TE_s rfl rfl rfl rfl rfl ?_
      refine TE_s rfl rfl rfl rfl rfl ?_
      refine TE_q rfl rfl (RD.pickF rfl rfl) rfl ?_
      refine TE_q rfl rfl (RD.move rfl) rfl ?_
      refine TE_s rfl rfl rfl rfl rfl ?_
      refine TE_s rfl rfl rfl rfl rfl ?_
      refine TE_s rfl rfl rfl rfl rfl ?_
      refine TE_s rfl rfl rfl rfl rfl ?_
      refine TE_s rfl rfl rfl rfl rfl ?_
      refine TE_q rfl rfl (RD.pickF rfl rfl) rfl ?_
      refine TE_q rfl rfl (RD.move rfl) rfl ?_
      refine TE_s rfl rfl rfl rfl rfl ?_
      refine TE_s rfl rfl rfl rfl rfl ?_
      refine TE_s rfl rfl rfl rfl rfl ?_
      refine TE_s rfl rfl rfl rfl rfl ?_
      refine TE_s rfl rfl rfl rfl rfl ?_
      refine TE_q rfl rfl (RD.pickF rfl rfl) rfl ?_
      refine TE_q rfl rfl (RD.assign rfl) rfl ?_
      refine TE_nil0 ?_
      exact pn_give () trivial ⟨congrArg (fun b => some (Value.bool b)) (by first | (simp [hf1]; done) | (simp only [decide_eq_false hf1]; rfl) | (simp only [decide_eq_false hf1]; simp; done)), trivial⟩ (fun _ hw => hw.sp (fun a => by simp -failIfUnchanged <;> omega))
  rintro _ -
  refine pn_ret ?_
  exact pn_doneS [] rfl rfl ⟨rfl, rfl⟩ (fun _ => Nat.zero_le _) (fun _ he => nomatch he)

end Go.Proofs.YtloljpefdecmhaaGreatDoor
