import Derived.Test.YtloljpefdecmhaaGreatDoorGap
namespace Go.Proofs.YtloljpefdecmhaaGreatDoor
open Go Go.Mv
set_option maxRecDepth 8000
theorem c_blobBare (x : Ob) (xd : Value) (xe : Value) (xp : Value) (HX : Mem) (w : World) (hbxd : Rdb HX xd x.data) (hbxe : Rdx 34 (entC) HX xe x.ents) (hbxp : Rdx 32 (idC) HX xp x.pars) (hox : ObOk x) (hH : Hp HX w) : Calls Tryz.prog 179 #[objV x xd xe xp] w (Ret w [] fun v H1 => v = objV (⟨x.k, x.data, [], (fun _ => 0), [], (⟨0, (fun _ => 0)⟩ : Lnk), ⟨#[]⟩⟩ : Ob) xd (.slice none 0 0) (.slice none 0 0) ∧ H1 = []) := by
  refine fn_enter (args := [_]) Tryz.func179 rfl Tryz.ntmps179 rfl hH ?_
  refine pn_seq ?_
  refine pn_plain [] rfl ?_
  refine TE_boxC (objV x xd xe xp).cells rfl rfl rfl trivial rfl fun b1 hb1 => ?_
  refine TE_allocC (objV (⟨0, [], [], (fun _ => 0), [], (⟨0, (fun _ => 0)⟩ : Lnk), ⟨#[]⟩⟩ : Ob) (.slice none 0 0) (.slice none 0 0) (.slice none 0 0)).cells rfl Tryz.zeroValue48 rfl trivial rfl fun b2 hb2 => ?_
  refine TE_nil0 ?_
  refine pn_seq ?_
  refine pn_plain [] rfl ?_
  refine TE_q rfl rfl (RD.fieldAddr (o := 0) Tryz.runUnderlying175 rfl rfl Tryz.sizeOf48 rfl) rfl ?_
  refine TE_q rfl rfl (RD.fieldAddr (o := 0) Tryz.runUnderlying48 rfl rfl Tryz.sizeOf3 rfl) rfl ?_
  refine TE_l rfl rfl trivial rfl (RD.load (i := 1) (v := .int .i64 x.k) Tryz.isAgg3 rfl rfl rfl) rfl ?_
  refine TE_q rfl rfl (RD.fieldAddr (o := 0) Tryz.runUnderlying175 rfl rfl Tryz.sizeOf48 rfl) rfl ?_
  refine TE_q rfl rfl (RD.fieldAddr (o := 1) Tryz.runUnderlying48 rfl rfl Tryz.sizeOf32 rfl) rfl ?_
  refine TE_l rfl rfl trivial rfl (RD.load (i := 1) (v := xd) Tryz.isAgg32 rfl rfl rfl) rfl ?_
  refine TE_q rfl rfl (RD.build (v := objV (⟨x.k, x.data, [], (fun _ => 0), [], (⟨0, (fun _ => 0)⟩ : Lnk), ⟨#[]⟩⟩ : Ob) xd (.slice none 0 0) (.slice none 0 0)) rfl (fun w => by obtain ⟨a0, c0, e0⟩ := (hbxd).shape; rw [e0]; kernel_rfl)) rfl ?_
  refine TE_putCW 0 (objV (⟨0, [], [], (fun _ => 0), [], (⟨0, (fun _ => 0)⟩ : Lnk), ⟨#[]⟩⟩ : Ob) (.slice none 0 0) (.slice none 0 0) (.slice none 0 0)).cells (objV (⟨x.k, x.data, [], (fun _ => 0), [], (⟨0, (fun _ => 0)⟩ : Lnk), ⟨#[]⟩⟩ : Ob) xd (.slice none 0 0) (.slice none 0 0)).cells ((b2, .cells (objV (⟨x.k, x.data, [], (fun _ => 0), [], (⟨0, (fun _ => 0)⟩ : Lnk), ⟨#[]⟩⟩ : Ob) xd (.slice none 0 0) (.slice none 0 0)).cells 48 (0, 0)) :: (b1, .cells (objV x xd xe xp).cells 175 (0, 0)) :: HX) rfl Tryz.sizeOf48 trivial rfl rfl rfl (objV_one _ _ _ _ (by obtain ⟨a, c, e⟩ := (hbxd).shape; rw [e]; rfl) rfl rfl) rfl rfl rfl rfl (.inl hb2) ?_
  refine TE_nil0 ?_
  refine pn_ret ?_
  exact pn_doneF rfl ⟨objV (⟨x.k, x.data, [], (fun _ => 0), [], (⟨0, (fun _ => 0)⟩ : Lnk), ⟨#[]⟩⟩ : Ob) xd (.slice none 0 0) (.slice none 0 0), _, b2, 0, rfl, rfl, load_agg (i := 0) Tryz.isAgg48 Tryz.sizeOf48 rfl (Nat.le_of_ble_eq_true rfl) (obj_all _ _ _ _), rfl⟩ ⟨rfl, rfl⟩ (fun _ h => h.sp (fun _ => Nat.zero_le _)) (fun _ he => nomatch he)

theorem c_treeBare (x : Ob) (xd : Value) (xe : Value) (xp : Value) (HX : Mem) (w : World) (hbxd : Rdb HX xd x.data) (hbxe : Rdx 34 (entC) HX xe x.ents) (hbxp : Rdx 32 (idC) HX xp x.pars) (hox : ObOk x) (hH : Hp HX w) : Calls Tryz.prog 187 #[objV x xd xe xp] w (Ret w [] fun v H1 => v = objV (⟨x.k, [], x.ents, (fun _ => 0), [], (⟨0, (fun _ => 0)⟩ : Lnk), ⟨#[]⟩⟩ : Ob) (.slice none 0 0) xe (.slice none 0 0) ∧ H1 = []) := by
  refine fn_enter (args := [_]) Tryz.func187 rfl Tryz.ntmps187 rfl hH ?_
  refine pn_seq ?_
  refine pn_plain [] rfl ?_
  refine TE_boxC (objV x xd xe xp).cells rfl rfl rfl trivial rfl fun b1 hb1 => ?_
  refine TE_allocC (objV (⟨0, [], [], (fun _ => 0), [], (⟨0, (fun _ => 0)⟩ : Lnk), ⟨#[]⟩⟩ : Ob) (.slice none 0 0) (.slice none 0 0) (.slice none 0 0)).cells rfl Tryz.zeroValue48 rfl trivial rfl fun b2 hb2 => ?_
  refine TE_nil0 ?_
  refine pn_seq ?_
  refine pn_plain [] rfl ?_
  refine TE_q rfl rfl (RD.fieldAddr (o := 0) Tryz.runUnderlying176 rfl rfl Tryz.sizeOf48 rfl) rfl ?_
  refine TE_q rfl rfl (RD.fieldAddr (o := 0) Tryz.runUnderlying48 rfl rfl Tryz.sizeOf3 rfl) rfl ?_
  refine TE_l rfl rfl trivial rfl (RD.load (i := 1) (v := .int .i64 x.k) Tryz.isAgg3 rfl rfl rfl) rfl ?_
  refine TE_q rfl rfl (RD.fieldAddr (o := 0) Tryz.runUnderlying176 rfl rfl Tryz.sizeOf48 rfl) rfl ?_
  refine TE_q rfl rfl (RD.fieldAddr (o := 2) Tryz.runUnderlying48 rfl rfl Tryz.sizeOf43 rfl) rfl ?_
  refine TE_l rfl rfl trivial rfl (RD.load (i := 1) (v := xe) Tryz.isAgg43 rfl rfl rfl) rfl ?_
  refine TE_q rfl rfl (RD.build (v := objV (⟨x.k, [], x.ents, (fun _ => 0), [], (⟨0, (fun _ => 0)⟩ : Lnk), ⟨#[]⟩⟩ : Ob) (.slice none 0 0) xe (.slice none 0 0)) rfl (fun w => by obtain ⟨a0, c0, e0⟩ := (hbxe).shape; rw [e0]; kernel_rfl)) rfl ?_
  refine TE_putCW 0 (objV (⟨0, [], [], (fun _ => 0), [], (⟨0, (fun _ => 0)⟩ : Lnk), ⟨#[]⟩⟩ : Ob) (.slice none 0 0) (.slice none 0 0) (.slice none 0 0)).cells (objV (⟨x.k, [], x.ents, (fun _ => 0), [], (⟨0, (fun _ => 0)⟩ : Lnk), ⟨#[]⟩⟩ : Ob) (.slice none 0 0) xe (.slice none 0 0)).cells ((b2, .cells (objV (⟨x.k, [], x.ents, (fun _ => 0), [], (⟨0, (fun _ => 0)⟩ : Lnk), ⟨#[]⟩⟩ : Ob) (.slice none 0 0) xe (.slice none 0 0)).cells 48 (0, 0)) :: (b1, .cells (objV x xd xe xp).cells 176 (0, 0)) :: HX) rfl Tryz.sizeOf48 trivial rfl rfl rfl (objV_one _ _ _ _ rfl (by obtain ⟨a, c, e⟩ := (hbxe).shape; rw [e]; rfl) rfl) rfl rfl rfl rfl (.inl hb2) ?_
  refine TE_nil0 ?_
  refine pn_ret ?_
  exact pn_doneF rfl ⟨objV (⟨x.k, [], x.ents, (fun _ => 0), [], (⟨0, (fun _ => 0)⟩ : Lnk), ⟨#[]⟩⟩ : Ob) (.slice none 0 0) xe (.slice none 0 0), _, b2, 0, rfl, rfl, load_agg (i := 0) Tryz.isAgg48 Tryz.sizeOf48 rfl (Nat.le_of_ble_eq_true rfl) (obj_all _ _ _ _), rfl⟩ ⟨rfl, rfl⟩ (fun _ h => h.sp (fun _ => Nat.zero_le _)) (fun _ he => nomatch he)

theorem c_commitBare (x : Ob) (xd : Value) (xe : Value) (xp : Value) (HX : Mem) (w : World) (hbxd : Rdb HX xd x.data) (hbxe : Rdx 34 (entC) HX xe x.ents) (hbxp : Rdx 32 (idC) HX xp x.pars) (hox : ObOk x) (hH : Hp HX w) : Calls Tryz.prog 203 #[objV x xd xe xp] w (Ret w [] fun v H1 => v = objV (⟨x.k, [], [], x.t, x.pars, (⟨0, (fun _ => 0)⟩ : Lnk), x.m⟩ : Ob) (.slice none 0 0) (.slice none 0 0) xp ∧ H1 = []) := by
  refine fn_enter (args := [_]) Tryz.func203 rfl Tryz.ntmps203 rfl hH ?_
  refine pn_seq ?_
  refine pn_plain [] rfl ?_
  refine TE_boxC (objV x xd xe xp).cells rfl rfl rfl trivial rfl fun b1 hb1 => ?_
  refine TE_allocC (objV (⟨0, [], [], (fun _ => 0), [], (⟨0, (fun _ => 0)⟩ : Lnk), ⟨#[]⟩⟩ : Ob) (.slice none 0 0) (.slice none 0 0) (.slice none 0 0)).cells rfl Tryz.zeroValue48 rfl trivial rfl fun b2 hb2 => ?_
  refine TE_nil0 ?_
  refine pn_seq ?_
  refine pn_plain [] rfl ?_
  refine TE_q rfl rfl (RD.fieldAddr (o := 0) Tryz.runUnderlying177 rfl rfl Tryz.sizeOf48 rfl) rfl ?_
  refine TE_q rfl rfl (RD.fieldAddr (o := 0) Tryz.runUnderlying48 rfl rfl Tryz.sizeOf3 rfl) rfl ?_
  refine TE_l rfl rfl trivial rfl (RD.load (i := 1) (v := .int .i64 x.k) Tryz.isAgg3 rfl rfl rfl) rfl ?_
  refine TE_q rfl rfl (RD.fieldAddr (o := 0) Tryz.runUnderlying177 rfl rfl Tryz.sizeOf48 rfl) rfl ?_
  refine TE_q rfl rfl (RD.fieldAddr (o := 3) Tryz.runUnderlying48 rfl rfl Tryz.sizeOf36 rfl) rfl ?_
  refine TE_l rfl rfl trivial rfl (RD.loadA (i := 1) (v := idV x.t) Tryz.isAgg36 Tryz.sizeOf36 rfl rfl (Nat.le_of_ble_eq_true rfl) (obj_t _ _ _ _)) rfl ?_
  refine TE_q rfl rfl (RD.fieldAddr (o := 0) Tryz.runUnderlying177 rfl rfl Tryz.sizeOf48 rfl) rfl ?_
  refine TE_q rfl rfl (RD.fieldAddr (o := 35) Tryz.runUnderlying48 rfl rfl Tryz.sizeOf44 rfl) rfl ?_
  refine TE_l rfl rfl trivial rfl (RD.load (i := 1) (v := xp) Tryz.isAgg44 rfl rfl rfl) rfl ?_
  refine TE_q rfl rfl (RD.fieldAddr (o := 0) Tryz.runUnderlying177 rfl rfl Tryz.sizeOf48 rfl) rfl ?_
  refine TE_q rfl rfl (RD.fieldAddr (o := 69) Tryz.runUnderlying48 rfl rfl Tryz.sizeOf9 rfl) rfl ?_
  refine TE_l rfl rfl trivial rfl (RD.load (i := 1) (v := .string x.m) Tryz.isAgg9 rfl rfl rfl) rfl ?_
  refine TE_q rfl rfl (RD.build (v := objV (⟨x.k, [], [], x.t, x.pars, (⟨0, (fun _ => 0)⟩ : Lnk), x.m⟩ : Ob) (.slice none 0 0) (.slice none 0 0) xp) rfl (fun w => by obtain ⟨a0, c0, e0⟩ := (hbxp).shape; rw [e0]; kernel_rfl)) rfl ?_
  refine TE_putCW 0 (objV (⟨0, [], [], (fun _ => 0), [], (⟨0, (fun _ => 0)⟩ : Lnk), ⟨#[]⟩⟩ : Ob) (.slice none 0 0) (.slice none 0 0) (.slice none 0 0)).cells (objV (⟨x.k, [], [], x.t, x.pars, (⟨0, (fun _ => 0)⟩ : Lnk), x.m⟩ : Ob) (.slice none 0 0) (.slice none 0 0) xp).cells ((b2, .cells (objV (⟨x.k, [], [], x.t, x.pars, (⟨0, (fun _ => 0)⟩ : Lnk), x.m⟩ : Ob) (.slice none 0 0) (.slice none 0 0) xp).cells 48 (0, 0)) :: (b1, .cells (objV x xd xe xp).cells 177 (0, 0)) :: HX) rfl Tryz.sizeOf48 trivial rfl rfl rfl (objV_one _ _ _ _ rfl rfl (by obtain ⟨a, c, e⟩ := (hbxp).shape; rw [e]; rfl)) rfl rfl rfl rfl (.inl hb2) ?_
  refine TE_nil0 ?_
  refine pn_ret ?_
  exact pn_doneF rfl ⟨objV (⟨x.k, [], [], x.t, x.pars, (⟨0, (fun _ => 0)⟩ : Lnk), x.m⟩ : Ob) (.slice none 0 0) (.slice none 0 0) xp, _, b2, 0, rfl, rfl, load_agg (i := 0) Tryz.isAgg48 Tryz.sizeOf48 rfl (Nat.le_of_ble_eq_true rfl) (obj_all _ _ _ _), rfl⟩ ⟨rfl, rfl⟩ (fun _ h => h.sp (fun _ => Nat.zero_le _)) (fun _ he => nomatch he)

theorem c_tagBare (x : Ob) (xd : Value) (xe : Value) (xp : Value) (HX : Mem) (w : World) (hbxd : Rdb HX xd x.data) (hbxe : Rdx 34 (entC) HX xe x.ents) (hbxp : Rdx 32 (idC) HX xp x.pars) (hox : ObOk x) (hH : Hp HX w) : Calls Tryz.prog 208 #[objV x xd xe xp] w (Ret w [] fun v H1 => v = objV (⟨x.k, [], [], (fun _ => 0), [], x.tg, x.m⟩ : Ob) (.slice none 0 0) (.slice none 0 0) (.slice none 0 0) ∧ H1 = []) := by
  refine fn_enter (args := [_]) Tryz.func208 rfl Tryz.ntmps208 rfl hH ?_
  refine pn_seq ?_
  refine pn_plain [] rfl ?_
  refine TE_boxC (objV x xd xe xp).cells rfl rfl rfl trivial rfl fun b1 hb1 => ?_
  refine TE_allocC (objV (⟨0, [], [], (fun _ => 0), [], (⟨0, (fun _ => 0)⟩ : Lnk), ⟨#[]⟩⟩ : Ob) (.slice none 0 0) (.slice none 0 0) (.slice none 0 0)).cells rfl Tryz.zeroValue48 rfl trivial rfl fun b2 hb2 => ?_
  refine TE_nil0 ?_
  refine pn_seq ?_
  refine pn_plain [] rfl ?_
  refine TE_q rfl rfl (RD.fieldAddr (o := 0) Tryz.runUnderlying178 rfl rfl Tryz.sizeOf48 rfl) rfl ?_
  refine TE_q rfl rfl (RD.fieldAddr (o := 0) Tryz.runUnderlying48 rfl rfl Tryz.sizeOf3 rfl) rfl ?_
  refine TE_l rfl rfl trivial rfl (RD.load (i := 1) (v := .int .i64 x.k) Tryz.isAgg3 rfl rfl rfl) rfl ?_
  refine TE_q rfl rfl (RD.fieldAddr (o := 0) Tryz.runUnderlying178 rfl rfl Tryz.sizeOf48 rfl) rfl ?_
  refine TE_q rfl rfl (RD.fieldAddr (o := 36) Tryz.runUnderlying48 rfl rfl Tryz.sizeOf46 rfl) rfl ?_
  refine TE_l rfl rfl trivial rfl (RD.loadA (i := 1) (v := lnkV x.tg) Tryz.isAgg46 Tryz.sizeOf46 rfl rfl (Nat.le_of_ble_eq_true rfl) (obj_tg _ _ _ _)) rfl ?_
  refine TE_q rfl rfl (RD.fieldAddr (o := 0) Tryz.runUnderlying178 rfl rfl Tryz.sizeOf48 rfl) rfl ?_
  refine TE_q rfl rfl (RD.fieldAddr (o := 69) Tryz.runUnderlying48 rfl rfl Tryz.sizeOf9 rfl) rfl ?_
  refine TE_l rfl rfl trivial rfl (RD.load (i := 1) (v := .string x.m) Tryz.isAgg9 rfl rfl rfl) rfl ?_
  refine TE_q rfl rfl (RD.build (v := objV (⟨x.k, [], [], (fun _ => 0), [], x.tg, x.m⟩ : Ob) (.slice none 0 0) (.slice none 0 0) (.slice none 0 0)) rfl (fun w => by kernel_rfl)) rfl ?_
  refine TE_putCW 0 (objV (⟨0, [], [], (fun _ => 0), [], (⟨0, (fun _ => 0)⟩ : Lnk), ⟨#[]⟩⟩ : Ob) (.slice none 0 0) (.slice none 0 0) (.slice none 0 0)).cells (objV (⟨x.k, [], [], (fun _ => 0), [], x.tg, x.m⟩ : Ob) (.slice none 0 0) (.slice none 0 0) (.slice none 0 0)).cells ((b2, .cells (objV (⟨x.k, [], [], (fun _ => 0), [], x.tg, x.m⟩ : Ob) (.slice none 0 0) (.slice none 0 0) (.slice none 0 0)).cells 48 (0, 0)) :: (b1, .cells (objV x xd xe xp).cells 178 (0, 0)) :: HX) rfl Tryz.sizeOf48 trivial rfl rfl rfl (objV_one _ _ _ _ rfl rfl rfl) rfl rfl rfl rfl (.inl hb2) ?_
  refine TE_nil0 ?_
  refine pn_ret ?_
  exact pn_doneF rfl ⟨objV (⟨x.k, [], [], (fun _ => 0), [], x.tg, x.m⟩ : Ob) (.slice none 0 0) (.slice none 0 0) (.slice none 0 0), _, b2, 0, rfl, rfl, load_agg (i := 0) Tryz.isAgg48 Tryz.sizeOf48 rfl (Nat.le_of_ble_eq_true rfl) (obj_all _ _ _ _), rfl⟩ ⟨rfl, rfl⟩ (fun _ h => h.sp (fun _ => Nat.zero_le _)) (fun _ he => nomatch he)

theorem c_of7 (x : Ob) (xd : Value) (xe : Value) (xp : Value) (HX : Mem) (w : World) (hbxd : Rdb HX xd x.data) (hbxe : Rdx 34 (entC) HX xe x.ents) (hbxp : Rdx 32 (idC) HX xp x.pars) (hox : ObOk x) (hH : Hp HX w) : Calls Tryz.prog 61 #[objV x xd xe xp] w (Ret w [] fun v H1 => (x.k = 1 ∧ v = .tuple #[.iface 175 (objV x xd xe xp), .bool true] ∧ H1 = []) ∨ (x.k = 2 ∧ v = .tuple #[.iface 176 (objV x xd xe xp), .bool true] ∧ H1 = []) ∨ (x.k = 3 ∧ v = .tuple #[.iface 177 (objV x xd xe xp), .bool true] ∧ H1 = []) ∨ (x.k = 4 ∧ v = .tuple #[.iface 178 (objV x xd xe xp), .bool true] ∧ H1 = []) ∨ (((¬ x.k = 1 ∧ ¬ x.k = 2) ∧ ¬ x.k = 3) ∧ ¬ x.k = 4) ∧ v = .tuple #[.nilIface, .bool false] ∧ H1 = []) := by
  refine fn_enter (args := [_]) Tryz.func61 rfl Tryz.ntmps61 rfl hH ?_
  refine pn_seq ?_
  refine pn_plain [] rfl ?_
  refine TE_boxC (objV x xd xe xp).cells rfl rfl rfl trivial rfl fun b1 hb1 => ?_
  refine TE_q rfl rfl (RD.assign rfl) rfl ?_
  refine TE_q rfl rfl (RD.assign rfl) rfl ?_
  refine TE_nil0 ?_
  refine pn_seq ?_
  refine pn_seq ?_
  refine pn_plain [] rfl ?_
  refine TE_q rfl rfl (RD.fieldAddr (o := 0) Tryz.runUnderlying48 rfl rfl Tryz.sizeOf3 rfl) rfl ?_
  refine TE_l rfl rfl trivial rfl (RD.load (i := 0) (v := .int .i64 x.k) Tryz.isAgg3 rfl rfl rfl) rfl ?_
  refine TE_nil0 ?_
  refine pn_block ?_
  refine pn_seq ?_
  refine pn_plain [] rfl ?_
  refine TE_q rfl rfl (RD.eql rfl rfl) rfl ?_
  refine TE_q rfl rfl (RD.assign rfl) rfl ?_
  refine TE_nil0 ?_
  refine pn_condD rfl (fun hc1 => ?_) (fun hc1 => ?_)
  · refine pn_seq ?_
    refine pn_plain [] rfl ?_
    refine TE_l rfl rfl trivial rfl (RD.loadA (i := 0) Tryz.isAgg48 Tryz.sizeOf48 rfl rfl (Nat.le_of_ble_eq_true rfl) (obj_all _ _ _ _)) rfl ?_
    refine TE_q rfl rfl (RD.build (v := objV x xd xe xp) rfl (bd_object_blob x xd xe xp)) rfl ?_
    refine TE_q rfl rfl (RD.mkIface Tryz.underlying175 (fun _ h => nomatch h) rfl) rfl ?_
    refine TE_q rfl rfl (RD.assign rfl) rfl ?_
    refine TE_q rfl rfl (RD.assign rfl) rfl ?_
    refine TE_nil0 ?_
    refine pn_ret ?_
    exact pn_doneS [] rfl rfl (.inl ⟨hc1, rfl, rfl⟩) (fun _ => Nat.zero_le _) (fun _ he => nomatch he)
  · refine pn_seq ?_
    refine pn_plain [] rfl ?_
    refine TE_q rfl rfl (RD.eql rfl rfl) rfl ?_
    refine TE_q rfl rfl (RD.assign rfl) rfl ?_
    refine TE_nil0 ?_
    refine pn_condD rfl (fun hc2 => ?_) (fun hc2 => ?_)
    · refine pn_seq ?_
      refine pn_plain [] rfl ?_
      refine TE_l rfl rfl trivial rfl (RD.loadA (i := 0) Tryz.isAgg48 Tryz.sizeOf48 rfl rfl (Nat.le_of_ble_eq_true rfl) (obj_all _ _ _ _)) rfl ?_
      refine TE_q rfl rfl (RD.build (v := objV x xd xe xp) rfl (bd_object_tree x xd xe xp)) rfl ?_
      refine TE_q rfl rfl (RD.mkIface Tryz.underlying176 (fun _ h => nomatch h) rfl) rfl ?_
      refine TE_q rfl rfl (RD.assign rfl) rfl ?_
      refine TE_q rfl rfl (RD.assign rfl) rfl ?_
      refine TE_nil0 ?_
      refine pn_ret ?_
      exact pn_doneS [] rfl rfl (.inr (.inl ⟨hc2, rfl, rfl⟩)) (fun _ => Nat.zero_le _) (fun _ he => nomatch he)
    · refine pn_seq ?_
      refine pn_plain [] rfl ?_
      refine TE_q rfl rfl (RD.eql rfl rfl) rfl ?_
      refine TE_q rfl rfl (RD.assign rfl) rfl ?_
      refine TE_nil0 ?_
      refine pn_condD rfl (fun hc3 => ?_) (fun hc3 => ?_)
      · refine pn_seq ?_
        refine pn_plain [] rfl ?_
        refine TE_l rfl rfl trivial rfl (RD.loadA (i := 0) Tryz.isAgg48 Tryz.sizeOf48 rfl rfl (Nat.le_of_ble_eq_true rfl) (obj_all _ _ _ _)) rfl ?_
        refine TE_q rfl rfl (RD.build (v := objV x xd xe xp) rfl (bd_object_commit x xd xe xp)) rfl ?_
        refine TE_q rfl rfl (RD.mkIface Tryz.underlying177 (fun _ h => nomatch h) rfl) rfl ?_
        refine TE_q rfl rfl (RD.assign rfl) rfl ?_
        refine TE_q rfl rfl (RD.assign rfl) rfl ?_
        refine TE_nil0 ?_
        refine pn_ret ?_
        exact pn_doneS [] rfl rfl (.inr (.inr (.inl ⟨hc3, rfl, rfl⟩))) (fun _ => Nat.zero_le _) (fun _ he => nomatch he)
      · refine pn_seq ?_
        refine pn_plain [] rfl ?_
        refine TE_q rfl rfl (RD.eql rfl rfl) rfl ?_
        refine TE_q rfl rfl (RD.assign rfl) rfl ?_
        refine TE_nil0 ?_
        refine pn_condD rfl (fun hc4 => ?_) (fun hc4 => ?_)
        · refine pn_seq ?_
          refine pn_plain [] rfl ?_
          refine TE_l rfl rfl trivial rfl (RD.loadA (i := 0) Tryz.isAgg48 Tryz.sizeOf48 rfl rfl (Nat.le_of_ble_eq_true rfl) (obj_all _ _ _ _)) rfl ?_
          refine TE_q rfl rfl (RD.build (v := objV x xd xe xp) rfl (bd_object_tag x xd xe xp)) rfl ?_
          refine TE_q rfl rfl (RD.mkIface Tryz.underlying178 (fun _ h => nomatch h) rfl) rfl ?_
          refine TE_q rfl rfl (RD.assign rfl) rfl ?_
          refine TE_q rfl rfl (RD.assign rfl) rfl ?_
          refine TE_nil0 ?_
          refine pn_ret ?_
          exact pn_doneS [] rfl rfl (.inr (.inr (.inr (.inl ⟨hc4, rfl, rfl⟩)))) (fun _ => Nat.zero_le _) (fun _ he => nomatch he)
        · refine pn_skip ?_
          refine pn_seq ?_
          refine pn_plainG [] [] rfl (fun a => by simp -failIfUnchanged <;> omega) ?_
          refine TE_q rfl rfl (RD.assign rfl) rfl ?_
          refine TE_q rfl rfl (RD.assign rfl) rfl ?_
          refine TE_nil0 ?_
          refine pn_ret ?_
          exact pn_doneS [] rfl rfl (.inr (.inr (.inr (.inr ⟨⟨⟨⟨hc1, hc2⟩, hc3⟩, hc4⟩, rfl, rfl⟩)))) (fun _ => Nat.zero_le _) (fun _ he => nomatch he)

theorem c_obSame (x : Ob) (xd : Value) (xe : Value) (xp : Value) (y : Ob) (yd : Value) (ye : Value) (yp : Value) (HX : Mem) (w : World) (hbxd : Rdb HX xd x.data) (hbxe : Rdx 34 (entC) HX xe x.ents) (hbxp : Rdx 32 (idC) HX xp x.pars) (hbyd : Rdb HX yd y.data) (hbye : Rdx 34 (entC) HX ye y.ents) (hbyp : Rdx 32 (idC) HX yp y.pars) (hxl : x.ents.length ≤ 1000000 ∧ x.pars.length ≤ 1000000) (hyl : y.ents.length ≤ 1000000 ∧ y.pars.length ≤ 1000000) (hH : Hp HX w) : Calls Tryz.prog 36 #[objV x xd xe xp, objV y yd ye yp] w (Ret w [] fun v H1 => v = .bool (obSame x y) ∧ H1 = []) := by
  have hx1 := hxl.1; have hx2 := hxl.2; have hy1 := hyl.1; have hy2 := hyl.2
  refine fn_enter (args := [_, _]) Tryz.func36 rfl Tryz.ntmps36 rfl hH ?_
  refine pn_seq ?_
  refine pn_plain [] rfl ?_
  refine TE_boxC (objV x xd xe xp).cells rfl rfl rfl trivial rfl fun b2 hb2 => ?_
  refine TE_boxC (objV y yd ye yp).cells rfl rfl rfl trivial rfl fun b3 hb3 => ?_
  refine TE_q rfl rfl (RD.assign rfl) rfl ?_
  refine TE_nil0 ?_
  refine pn_seq ?_
  refine pn_plain [] rfl ?_
  refine TE_q rfl rfl (RD.fieldAddr (o := 0) Tryz.runUnderlying48 rfl rfl Tryz.sizeOf3 rfl) rfl ?_
  refine TE_l rfl rfl trivial rfl (RD.load (i := 1) (v := .int .i64 x.k) Tryz.isAgg3 rfl rfl rfl) rfl ?_
  refine TE_q rfl rfl (RD.fieldAddr (o := 0) Tryz.runUnderlying48 rfl rfl Tryz.sizeOf3 rfl) rfl ?_
  refine TE_l rfl rfl trivial rfl (RD.load (i := 0) (v := .int .i64 y.k) Tryz.isAgg3 rfl rfl rfl) rfl ?_
  refine TE_q rfl rfl (RD.eql rfl rfl) rfl ?_
  refine TE_q rfl rfl (RD.move rfl) rfl ?_
  refine TE_join (σ := Unit) (fun _ => [(4, .bool ((decide (x.k = y.k)) && ((decide (x.data = y.data)) && ((sameGL same_ent x.ents y.ents) && ((sameN 32 x.t y.t) && ((sameIL x.pars y.pars) && ((same_lnk x.tg y.tg) && (decide (x.m = y.m)))))))))]) (fun _ => ((b3, .cells (objV y yd ye yp).cells 48 (0, 0)) :: (b2, .cells (objV x xd xe xp).cells 48 (0, 0)) :: HX)) (fun _ => True) ?_ ?_
  · refine TE_dec (fun hf1 => ?_) (fun hf1 => ?_)
    · refine TE_gq rfl rfl rfl rfl (RD.fieldAddr (o := 1) Tryz.runUnderlying48 rfl rfl Tryz.sizeOf32 rfl) rfl ?_
      refine TE_l rfl rfl ⟨_, rfl, rfl⟩ rfl (RD.load (i := 1) (v := xd) Tryz.isAgg32 rfl rfl rfl) rfl ?_
      refine TE_gq rfl rfl rfl rfl (RD.fieldAddr (o := 1) Tryz.runUnderlying48 rfl rfl Tryz.sizeOf32 rfl) rfl ?_
      refine TE_l rfl rfl ⟨_, rfl, rfl⟩ rfl (RD.load (i := 0) (v := yd) Tryz.isAgg32 rfl rfl rfl) rfl ?_
      refine TE_callG _ HX rfl rfl ⟨_, rfl, rfl⟩ Tryz.call78 rfl rfl rfl (fun w hw => c_bytesEqual xd x.data yd y.data HX w (hbxd.mono (fun _ hw => hw.sp (fun a => by simp -failIfUnchanged <;> omega))) (hbyd.mono (fun _ hw => hw.sp (fun a => by simp -failIfUnchanged <;> omega))) (hw.sp (fun a => by simp -failIfUnchanged <;> omega))) (fun a => by simp -failIfUnchanged <;> omega) ?_
      rintro v2 H3 ⟨rfl, rfl⟩ -
      refine TE_q rfl rfl (RD.pickT rfl rfl) rfl ?_
      refine TE_q rfl rfl (RD.move rfl) rfl ?_
      refine TE_dec (fun hf4 => ?_) (fun hf4 => ?_)
      · refine TE_gq rfl rfl rfl rfl (RD.fieldAddr (o := 2) Tryz.runUnderlying48 rfl rfl Tryz.sizeOf43 rfl) rfl ?_
        refine TE_l rfl rfl ⟨_, rfl, rfl⟩ rfl (RD.load (i := 1) (v := xe) Tryz.isAgg43 rfl rfl rfl) rfl ?_
        refine TE_gq rfl rfl rfl rfl (RD.fieldAddr (o := 2) Tryz.runUnderlying48 rfl rfl Tryz.sizeOf43 rfl) rfl ?_
        refine TE_l rfl rfl ⟨_, rfl, rfl⟩ rfl (RD.load (i := 0) (v := ye) Tryz.isAgg43 rfl rfl rfl) rfl ?_
        refine TE_callG _ HX rfl rfl ⟨_, rfl, rfl⟩ Tryz.call79 rfl rfl rfl (fun w hw => c_equalE xe x.ents ye y.ents HX w (hbxe.mono (fun _ hw => hw.sp (fun a => by simp -failIfUnchanged <;> omega))) (by first | assumption | omega | (simp; done) | (simp; omega)) (hbye.mono (fun _ hw => hw.sp (fun a => by simp -failIfUnchanged <;> omega))) (by first | assumption | omega | (simp; done) | (simp; omega)) (hw.sp (fun a => by simp -failIfUnchanged <;> omega))) (fun a => by simp -failIfUnchanged <;> omega) ?_
        rintro v5 H6 ⟨rfl, rfl⟩ -
        refine TE_q rfl rfl (RD.pickT rfl rfl) rfl ?_
        refine TE_q rfl rfl (RD.move rfl) rfl ?_
        refine TE_bool (fun hf7 => ?_) (fun hf7 => ?_)
        · refine TE_gq rfl rfl rfl rfl (RD.fieldAddr (o := 3) Tryz.runUnderlying48 rfl rfl Tryz.sizeOf36 rfl) rfl ?_
          refine TE_l rfl rfl ⟨_, rfl, rfl⟩ rfl (RD.loadA (i := 1) (v := idV x.t) Tryz.isAgg36 Tryz.sizeOf36 rfl rfl (Nat.le_of_ble_eq_true rfl) (obj_t _ _ _ _)) rfl ?_
          refine TE_gq rfl rfl rfl rfl (RD.fieldAddr (o := 3) Tryz.runUnderlying48 rfl rfl Tryz.sizeOf36 rfl) rfl ?_
          refine TE_l rfl rfl ⟨_, rfl, rfl⟩ rfl (RD.loadA (i := 0) (v := idV y.t) Tryz.isAgg36 Tryz.sizeOf36 rfl rfl (Nat.le_of_ble_eq_true rfl) (obj_t _ _ _ _)) rfl ?_
          refine TE_gq rfl rfl rfl rfl (RD.eql_agg Tryz.eqGuardType36 (eq_id x.t y.t) rfl rfl) rfl ?_
          refine TE_q rfl rfl (RD.pickT rfl rfl) rfl ?_
          refine TE_q rfl rfl (RD.move rfl) rfl ?_
          refine TE_bool (fun hf8 => ?_) (fun hf8 => ?_)
          · refine TE_gq rfl rfl rfl rfl (RD.fieldAddr (o := 35) Tryz.runUnderlying48 rfl rfl Tryz.sizeOf44 rfl) rfl ?_
            refine TE_l rfl rfl ⟨_, rfl, rfl⟩ rfl (RD.load (i := 1) (v := xp) Tryz.isAgg44 rfl rfl rfl) rfl ?_
            refine TE_gq rfl rfl rfl rfl (RD.fieldAddr (o := 35) Tryz.runUnderlying48 rfl rfl Tryz.sizeOf44 rfl) rfl ?_
            refine TE_l rfl rfl ⟨_, rfl, rfl⟩ rfl (RD.load (i := 0) (v := yp) Tryz.isAgg44 rfl rfl rfl) rfl ?_
            refine TE_callG _ HX rfl rfl ⟨_, rfl, rfl⟩ Tryz.call80 rfl rfl rfl (fun w hw => c_equalI xp x.pars yp y.pars HX w (hbxp.mono (fun _ hw => hw.sp (fun a => by simp -failIfUnchanged <;> omega))) (by first | assumption | omega | (simp; done) | (simp; omega)) (hbyp.mono (fun _ hw => hw.sp (fun a => by simp -failIfUnchanged <;> omega))) (by first | assumption | omega | (simp; done) | (simp; omega)) (hw.sp (fun a => by simp -failIfUnchanged <;> omega))) (fun a => by simp -failIfUnchanged <;> omega) ?_
            rintro v9 H10 ⟨rfl, rfl⟩ -
            refine TE_q rfl rfl (RD.pickT rfl rfl) rfl ?_
            refine TE_q rfl rfl (RD.move rfl) rfl ?_
            refine TE_bool (fun hf11 => ?_) (fun hf11 => ?_)
            · refine TE_gq rfl rfl rfl rfl (RD.fieldAddr (o := 36) Tryz.runUnderlying48 rfl rfl Tryz.sizeOf46 rfl) rfl ?_
              refine TE_l rfl rfl ⟨_, rfl, rfl⟩ rfl (RD.loadA (i := 1) (v := lnkV x.tg) Tryz.isAgg46 Tryz.sizeOf46 rfl rfl (Nat.le_of_ble_eq_true rfl) (obj_tg _ _ _ _)) rfl ?_
              refine TE_gq rfl rfl rfl rfl (RD.fieldAddr (o := 36) Tryz.runUnderlying48 rfl rfl Tryz.sizeOf46 rfl) rfl ?_
              refine TE_l rfl rfl ⟨_, rfl, rfl⟩ rfl (RD.loadA (i := 0) (v := lnkV y.tg) Tryz.isAgg46 Tryz.sizeOf46 rfl rfl (Nat.le_of_ble_eq_true rfl) (obj_tg _ _ _ _)) rfl ?_
              refine TE_gq rfl rfl rfl rfl (RD.eql_agg Tryz.eqGuardType46 (eq_lnk x.tg y.tg) rfl rfl) rfl ?_
              refine TE_q rfl rfl (RD.pickT rfl rfl) rfl ?_
              refine TE_q rfl rfl (RD.move rfl) rfl ?_
              refine TE_bool (fun hf12 => ?_) (fun hf12 => ?_)
              · refine TE_gq rfl rfl rfl rfl (RD.fieldAddr (o := 69) Tryz.runUnderlying48 rfl rfl Tryz.sizeOf9 rfl) rfl ?_
                refine TE_l rfl rfl ⟨_, rfl, rfl⟩ rfl (RD.load (i := 1) (v := .string x.m) Tryz.isAgg9 rfl rfl rfl) rfl ?_
                refine TE_gq rfl rfl rfl rfl (RD.fieldAddr (o := 69) Tryz.runUnderlying48 rfl rfl Tryz.sizeOf9 rfl) rfl ?_
                refine TE_l rfl rfl ⟨_, rfl, rfl⟩ rfl (RD.load (i := 0) (v := .string y.m) Tryz.isAgg9 rfl rfl rfl) rfl ?_
                refine TE_gq rfl rfl rfl rfl (RD.eql_string rfl rfl) rfl ?_
                refine TE_q rfl rfl (RD.pickT rfl rfl) rfl ?_
                refine TE_q rfl rfl (RD.assign rfl) rfl ?_
                refine TE_nil0 ?_
                exact pn_give () trivial ⟨congrArg (fun b => some (Value.bool b)) (by first | (simp [hf1, hf4, hf7, hf8, hf11, hf12]; done) | (simp only [decide_eq_true hf1, decide_eq_true hf4, hf7, hf8, hf11, hf12]; rfl) | (simp only [decide_eq_true hf1, decide_eq_true hf4, hf7, hf8, hf11, hf12]; simp; done)), trivial⟩ (fun _ hw => hw.sp (fun a => by simp -failIfUnchanged <;> omega))
              · refine TE_s rfl rfl rfl rfl rfl ?_
                refine TE_s rfl rfl rfl rfl rfl ?_
                refine TE_s rfl rfl rfl rfl rfl ?_
                refine TE_s rfl rfl rfl rfl rfl ?_
                refine TE_s rfl rfl rfl rfl rfl ?_
                refine TE_q rfl rfl (RD.pickF rfl rfl) rfl ?_
                refine TE_q rfl rfl (RD.assign rfl) rfl ?_
                refine TE_nil0 ?_
                exact pn_give () trivial ⟨congrArg (fun b => some (Value.bool b)) (by first | (simp [hf1, hf4, hf7, hf8, hf11, hf12]; done) | (simp only [decide_eq_true hf1, decide_eq_true hf4, hf7, hf8, hf11, hf12]; rfl) | (simp only [decide_eq_true hf1, decide_eq_true hf4, hf7, hf8, hf11, hf12]; simp; done)), trivial⟩ (fun _ hw => hw.sp (fun a => by simp -failIfUnchanged <;> omega))
            · refine TE_s rfl rfl rfl rfl rfl ?_
              refine TE_s rfl rfl rfl rfl rfl ?_
              refine TE_s rfl rfl rfl rfl rfl ?_
              refine TE_s rfl rfl rfl rfl rfl ?_
              refine TE_s rfl rfl rfl rfl rfl ?_
              refine TE_q rfl rfl (RD.pickF rfl rfl) rfl ?_
              refine TE_q rfl rfl (RD.move rfl) rfl ?_
              refine TE_s rfl rfl rfl rfl rfl ?_
              refine TE_s rfl rfl rfl rfl rfl ?_
              refine TE_s rfl rfl rfl rfl rfl ?_
              refine TE_s rfl rfl rfl rfl rfl ?_
              refine TE_s rfl rfl rfl rfl rfl ?_
              refine TE_q rfl rfl (RD.pickF rfl rfl) rfl ?_
              refine TE_q rfl rfl (RD.assign rfl) rfl ?_
              refine TE_nil0 ?_
              exact pn_give () trivial ⟨congrArg (fun b => some (Value.bool b)) (by first | (simp [hf1, hf4, hf7, hf8, hf11]; done) | (simp only [decide_eq_true hf1, decide_eq_true hf4, hf7, hf8, hf11]; rfl) | (simp only [decide_eq_true hf1, decide_eq_true hf4, hf7, hf8, hf11]; simp; done)), trivial⟩ (fun _ hw => hw.sp (fun a => by simp -failIfUnchanged <;> omega))
          · refine TE_s rfl rfl rfl rfl rfl ?_
            refine TE_s rfl rfl rfl rfl rfl ?_
            refine TE_s rfl rfl rfl rfl rfl ?_
            refine TE_s rfl rfl rfl rfl rfl ?_
            refine TE_s rfl rfl rfl rfl rfl ?_
            refine TE_q rfl rfl (RD.pickF rfl rfl) rfl ?_
            refine TE_q rfl rfl (RD.move rfl) rfl ?_
            refine TE_s rfl rfl rfl rfl rfl ?_
            refine TE_s rfl rfl rfl rfl rfl ?_
            refine TE_s rfl rfl rfl rfl rfl ?_
            refine TE_s rfl rfl rfl rfl rfl ?_
            refine TE_s rfl rfl rfl rfl rfl ?_
            refine TE_q rfl rfl (RD.pickF rfl rfl) rfl ?_
            refine TE_q rfl rfl (RD.move rfl) rfl ?_
            refine TE_s rfl rfl rfl rfl rfl ?_
            refine TE_s rfl rfl rfl rfl rfl ?_
            refine TE_s rfl rfl rfl rfl rfl ?_
            refine TE_s rfl rfl rfl rfl rfl ?_
            refine TE_s rfl rfl rfl rfl rfl ?_
            refine TE_q rfl rfl (RD.pickF rfl rfl) rfl ?_
            refine TE_q rfl rfl (RD.assign rfl) rfl ?_
            refine TE_nil0 ?_
            exact pn_give () trivial ⟨congrArg (fun b => some (Value.bool b)) (by first | (simp [hf1, hf4, hf7, hf8]; done) | (simp only [decide_eq_true hf1, decide_eq_true hf4, hf7, hf8]; rfl) | (simp only [decide_eq_true hf1, decide_eq_true hf4, hf7, hf8]; simp; done)), trivial⟩ (fun _ hw => hw.sp (fun a => by simp -failIfUnchanged <;> omega))
        · refine TE_s rfl rfl rfl rfl rfl ?_
          refine TE_s rfl rfl rfl rfl rfl ?_
          refine TE_s rfl rfl rfl rfl rfl ?_
          refine TE_s rfl rfl rfl rfl rfl ?_
          refine TE_s rfl rfl rfl rfl rfl ?_
          refine TE_q rfl rfl (RD.pickF rfl rfl) rfl ?_
          refine TE_q rfl rfl (RD.move rfl) rfl ?_
          refine TE_s rfl rfl rfl rfl rfl ?_
          refine TE_s rfl rfl rfl rfl rfl ?_
          refine TE_s rfl rfl rfl rfl rfl ?_
          refine TE_s rfl rfl rfl rfl rfl ?_
          refine TE_s rfl rfl rfl rfl rfl ?_
          refine TE_q rfl rfl (RD.pickF rfl rfl) rfl ?_
          refine TE_q rfl rfl (RD.move rfl) rfl ?_
          refine TE_s rfl rfl rfl rfl rfl ?_
          refine TE_s rfl rfl rfl rfl rfl ?_
          refine TE_s rfl rfl rfl rfl rfl ?_
          refine TE_s rfl rfl rfl rfl rfl ?_
          refine TE_s rfl rfl rfl rfl rfl ?_
          refine TE_q rfl rfl (RD.pickF rfl rfl) rfl ?_
          refine TE_q rfl rfl (RD.move rfl) rfl ?_
          refine TE_s rfl rfl rfl rfl rfl ?_
          refine TE_s rfl rfl rfl rfl rfl ?_
          refine TE_s rfl rfl rfl rfl rfl ?_
          refine TE_s rfl rfl rfl rfl rfl ?_
          refine TE_s rfl rfl rfl rfl rfl ?_
          refine TE_q rfl rfl (RD.pickF rfl rfl) rfl ?_
          refine TE_q rfl rfl (RD.assign rfl) rfl ?_
          refine TE_nil0 ?_
          exact pn_give () trivial ⟨congrArg (fun b => some (Value.bool b)) (by first | (simp [hf1, hf4, hf7]; done) | (simp only [decide_eq_true hf1, decide_eq_true hf4, hf7]; rfl) | (simp only [decide_eq_true hf1, decide_eq_true hf4, hf7]; simp; done)), trivial⟩ (fun _ hw => hw.sp (fun a => by simp -failIfUnchanged <;> omega))
      · refine TE_s rfl rfl rfl rfl rfl ?_
        refine TE_s rfl rfl rfl rfl rfl ?_
        refine TE_s rfl rfl rfl rfl rfl ?_
        refine TE_s rfl rfl rfl rfl rfl ?_
        refine TE_s rfl rfl rfl rfl rfl ?_
        refine TE_q rfl rfl (RD.pickF rfl rfl) rfl ?_
        refine TE_q rfl rfl (RD.move rfl) rfl ?_
        refine TE_s rfl rfl rfl rfl rfl ?_
        refine TE_s rfl rfl rfl rfl rfl ?_
        refine TE_s rfl rfl rfl rfl rfl ?_
        refine TE_s rfl rfl rfl rfl rfl ?_
        refine TE_s rfl rfl rfl rfl rfl ?_
        refine TE_q rfl rfl (RD.pickF rfl rfl) rfl ?_
        refine TE_q rfl rfl (RD.move rfl) rfl ?_
        refine TE_s rfl rfl rfl rfl rfl ?_
        refine TE_s rfl rfl rfl rfl rfl ?_
        refine TE_s rfl rfl rfl rfl rfl ?_
        refine TE_s rfl rfl rfl rfl rfl ?_
        refine TE_s rfl rfl rfl rfl rfl ?_
        refine TE_q rfl rfl (RD.pickF rfl rfl) rfl ?_
        refine TE_q rfl rfl (RD.move rfl) rfl ?_
        refine TE_s rfl rfl rfl rfl rfl ?_
        refine TE_s rfl rfl rfl rfl rfl ?_
        refine TE_s rfl rfl rfl rfl rfl ?_
        refine TE_s rfl rfl rfl rfl rfl ?_
        refine TE_s rfl rfl rfl rfl rfl ?_
        refine TE_q rfl rfl (RD.pickF rfl rfl) rfl ?_
        refine TE_q rfl rfl (RD.move rfl) rfl ?_
        refine TE_s rfl rfl rfl rfl rfl ?_
        refine TE_s rfl rfl rfl rfl rfl ?_
        refine TE_s rfl rfl rfl rfl rfl ?_
        refine TE_s rfl rfl rfl rfl rfl ?_
        refine TE_s rfl rfl rfl rfl rfl ?_
        refine TE_q rfl rfl (RD.pickF rfl rfl) rfl ?_
        refine TE_q rfl rfl (RD.assign rfl) rfl ?_
        refine TE_nil0 ?_
        exact pn_give () trivial ⟨congrArg (fun b => some (Value.bool b)) (by first | (simp [hf1, hf4]; done) | (simp only [decide_eq_true hf1, decide_eq_false hf4]; rfl) | (simp only [decide_eq_true hf1, decide_eq_false hf4]; simp; done)), trivial⟩ (fun _ hw => hw.sp (fun a => by simp -failIfUnchanged <;> omega))
    · refine TE_s rfl rfl rfl rfl rfl ?_
      refine TE_s rfl rfl rfl rfl rfl ?_
      refine TE_s rfl rfl rfl rfl rfl ?_
      refine TE_s rfl rfl rfl rfl rfl ?_
      refine TE_s rfl rfl rfl rfl rfl ?_
      refine TE_q rfl rfl (RD.pickF rfl rfl) rfl ?_
      refine TE_q rfl rfl (RD.move rfl) rfl ?_
      refine TE_s rfl rfl rfl rfl rfl ?_
      refine TE_s rfl rfl rfl rfl rfl ?_
      refine TE_s rfl rfl rfl rfl rfl ?_
      refine TE_s rfl rfl rfl rfl rfl ?_
      refine TE_s rfl rfl rfl rfl rfl ?_
      refine TE_q rfl rfl (RD.pickF rfl rfl) rfl ?_
      refine TE_q rfl rfl (RD.move rfl) rfl ?_
      refine TE_s rfl rfl rfl rfl rfl ?_
      refine TE_s rfl rfl rfl rfl rfl ?_
      refine TE_s rfl rfl rfl rfl rfl ?_
      refine TE_s rfl rfl rfl rfl rfl ?_
      refine TE_s rfl rfl rfl rfl rfl ?_
      refine TE_q rfl rfl (RD.pickF rfl rfl) rfl ?_
      refine TE_q rfl rfl (RD.move rfl) rfl ?_
      refine TE_s rfl rfl rfl rfl rfl ?_
      refine TE_s rfl rfl rfl rfl rfl ?_
      refine TE_s rfl rfl rfl rfl rfl ?_
      refine TE_s rfl rfl rfl rfl rfl ?_
      refine TE_s rfl rfl rfl rfl rfl ?_
      refine TE_q rfl rfl (RD.pickF rfl rfl) rfl ?_
      refine TE_q rfl rfl (RD.move rfl) rfl ?_
      refine TE_s rfl rfl rfl rfl rfl ?_
      refine TE_s rfl rfl rfl rfl rfl ?_
      refine TE_s rfl rfl rfl rfl rfl ?_
      refine TE_s rfl rfl rfl rfl rfl ?_
      refine TE_s rfl rfl rfl rfl rfl ?_
      refine TE_q rfl rfl (RD.pickF rfl rfl) rfl ?_
      refine TE_q rfl rfl (RD.move rfl) rfl ?_
      refine TE_s rfl rfl rfl rfl rfl ?_
      refine TE_s rfl rfl rfl rfl rfl ?_
      refine TE_s rfl rfl rfl rfl rfl ?_
      refine TE_s rfl rfl rfl rfl rfl ?_
      refine TE_s rfl rfl rfl rfl rfl ?_
      refine TE_q rfl rfl (RD.pickF rfl rfl) rfl ?_
      refine TE_q rfl rfl (RD.assign rfl) rfl ?_
      refine TE_nil0 ?_
      exact pn_give () trivial ⟨congrArg (fun b => some (Value.bool b)) (by first | (simp [hf1]; done) | (simp only [decide_eq_false hf1]; rfl) | (simp only [decide_eq_false hf1]; simp; done)), trivial⟩ (fun _ hw => hw.sp (fun a => by simp -failIfUnchanged <;> omega))
  rintro _ -
  refine pn_ret ?_
  exact pn_doneS [] rfl rfl ⟨rfl, rfl⟩ (fun _ => Nat.zero_le _) (fun _ he => nomatch he)

end Go.Proofs.YtloljpefdecmhaaGreatDoor
