import Derived.Test.YtcmnmigcalibdaaGreatDoorGan
namespace Go.Proofs.YtcmnmigcalibdaaGreatDoor
open Go.Proofs.Tryz
open Go Go.Mv
set_option maxRecDepth 8000
theorem c_blobBare (x : Ob) (xd : Value) (xe : Value) (xp : Value) (HX : Mem) (w : World) (hbxd : Rdb HX xd x.data) (hbxe : Rdx 34 (entC) HX xe x.ents) (hbxp : Rdx 32 (idC) HX xp x.pars) (hox : ObOk x) (hH : Hp HX w) : Calls Tryz.prog 300 #[objV x xd xe xp] w (Ret w [] fun v H1 => v = objV (⟨x.k, x.data, [], (fun _ => 0), [], (⟨0, (fun _ => 0)⟩ : Lnk), ⟨#[]⟩⟩ : Ob) xd (.slice none 0 0) (.slice none 0 0) ∧ H1 = []) := by
 refine fn_enter (args := [_]) func300 rfl ntmps300 rfl hH (sq (pl (TE_boxC (objV x xd xe xp).cells rfl rfl rfl trivial rfl fun b1 hb1 => (TE_allocC (objV (⟨0, [], [], (fun _ => 0), [], (⟨0, (fun _ => 0)⟩ : Lnk), ⟨#[]⟩⟩ : Ob) (.slice none 0 0) (.slice none 0 0) (.slice none 0 0)).cells rfl zeroValue62 rfl trivial rfl fun b2 hb2 => (n0 (sq (pl (qq rfl (RD.fieldAddr (o := 0) runUnderlying265 rfl rfl sizeOf62 rfl) (qq rfl (RD.fieldAddr (o := 0) runUnderlying62 rfl rfl sizeOf3 rfl) ?_)))))))))
 exact ql rfl (RD.load (i := 1) (v := .int .i64 x.k) isAgg3 rfl rfl rfl) (qq rfl (RD.fieldAddr (o := 0) runUnderlying265 rfl rfl sizeOf62 rfl) (qq rfl (RD.fieldAddr (o := 1) runUnderlying62 rfl rfl sizeOf32 rfl) (ql rfl (RD.load (i := 1) (v := xd) isAgg32 rfl rfl rfl) (qq rfl (RD.build (v := objV (⟨x.k, x.data, [], (fun _ => 0), [], (⟨0, (fun _ => 0)⟩ : Lnk), ⟨#[]⟩⟩ : Ob) xd (.slice none 0 0) (.slice none 0 0)) rfl (fun w => by obtain ⟨a0, c0, e0⟩ := (hbxd).shape; rw [e0]; kernel_rfl)) (TE_putCW 0 _ _ ((b2, .cells (objV (⟨x.k, x.data, [], (fun _ => 0), [], (⟨0, (fun _ => 0)⟩ : Lnk), ⟨#[]⟩⟩ : Ob) xd (.slice none 0 0) (.slice none 0 0)).cells 62 (0, 0)) :: (b1, .cells (objV x xd xe xp).cells 265 (0, 0)) :: HX) rfl sizeOf62 trivial rfl rfl rfl (objV_one _ _ _ _ (by obtain ⟨a, c, e⟩ := (hbxd).shape; rw [e]; rfl) rfl rfl) rfl rfl rfl rfl (.inl hb2) (n0 (rt (pn_doneF rfl ⟨objV (⟨x.k, x.data, [], (fun _ => 0), [], (⟨0, (fun _ => 0)⟩ : Lnk), ⟨#[]⟩⟩ : Ob) xd (.slice none 0 0) (.slice none 0 0), _, b2, 0, rfl, rfl, load_agg (i := 0) isAgg62 sizeOf62 rfl (Nat.le_of_ble_eq_true rfl) (obj_all _ _ _ _), rfl⟩ ⟨rfl, rfl⟩ (fun _ h => h.sp (fun _ => Nat.zero_le _)) (fun _ he => nomatch he)))))))))
theorem c_treeBare (x : Ob) (xd : Value) (xe : Value) (xp : Value) (HX : Mem) (w : World) (hbxd : Rdb HX xd x.data) (hbxe : Rdx 34 (entC) HX xe x.ents) (hbxp : Rdx 32 (idC) HX xp x.pars) (hox : ObOk x) (hH : Hp HX w) : Calls Tryz.prog 304 #[objV x xd xe xp] w (Ret w [] fun v H1 => v = objV (⟨x.k, [], x.ents, (fun _ => 0), [], (⟨0, (fun _ => 0)⟩ : Lnk), ⟨#[]⟩⟩ : Ob) (.slice none 0 0) xe (.slice none 0 0) ∧ H1 = []) := by
 refine fn_enter (args := [_]) func304 rfl ntmps304 rfl hH (sq (pl (TE_boxC (objV x xd xe xp).cells rfl rfl rfl trivial rfl fun b1 hb1 => (TE_allocC (objV (⟨0, [], [], (fun _ => 0), [], (⟨0, (fun _ => 0)⟩ : Lnk), ⟨#[]⟩⟩ : Ob) (.slice none 0 0) (.slice none 0 0) (.slice none 0 0)).cells rfl zeroValue62 rfl trivial rfl fun b2 hb2 => (n0 (sq (pl (qq rfl (RD.fieldAddr (o := 0) runUnderlying266 rfl rfl sizeOf62 rfl) (qq rfl (RD.fieldAddr (o := 0) runUnderlying62 rfl rfl sizeOf3 rfl) ?_)))))))))
 exact ql rfl (RD.load (i := 1) (v := .int .i64 x.k) isAgg3 rfl rfl rfl) (qq rfl (RD.fieldAddr (o := 0) runUnderlying266 rfl rfl sizeOf62 rfl) (qq rfl (RD.fieldAddr (o := 2) runUnderlying62 rfl rfl sizeOf58 rfl) (ql rfl (RD.load (i := 1) (v := xe) isAgg58 rfl rfl rfl) (qq rfl (RD.build (v := objV (⟨x.k, [], x.ents, (fun _ => 0), [], (⟨0, (fun _ => 0)⟩ : Lnk), ⟨#[]⟩⟩ : Ob) (.slice none 0 0) xe (.slice none 0 0)) rfl (fun w => by obtain ⟨a0, c0, e0⟩ := (hbxe).shape; rw [e0]; kernel_rfl)) (TE_putCW 0 _ _ ((b2, .cells (objV (⟨x.k, [], x.ents, (fun _ => 0), [], (⟨0, (fun _ => 0)⟩ : Lnk), ⟨#[]⟩⟩ : Ob) (.slice none 0 0) xe (.slice none 0 0)).cells 62 (0, 0)) :: (b1, .cells (objV x xd xe xp).cells 266 (0, 0)) :: HX) rfl sizeOf62 trivial rfl rfl rfl (objV_one _ _ _ _ rfl (by obtain ⟨a, c, e⟩ := (hbxe).shape; rw [e]; rfl) rfl) rfl rfl rfl rfl (.inl hb2) (n0 (rt (pn_doneF rfl ⟨objV (⟨x.k, [], x.ents, (fun _ => 0), [], (⟨0, (fun _ => 0)⟩ : Lnk), ⟨#[]⟩⟩ : Ob) (.slice none 0 0) xe (.slice none 0 0), _, b2, 0, rfl, rfl, load_agg (i := 0) isAgg62 sizeOf62 rfl (Nat.le_of_ble_eq_true rfl) (obj_all _ _ _ _), rfl⟩ ⟨rfl, rfl⟩ (fun _ h => h.sp (fun _ => Nat.zero_le _)) (fun _ he => nomatch he)))))))))
theorem c_commitBare (x : Ob) (xd : Value) (xe : Value) (xp : Value) (HX : Mem) (w : World) (hbxd : Rdb HX xd x.data) (hbxe : Rdx 34 (entC) HX xe x.ents) (hbxp : Rdx 32 (idC) HX xp x.pars) (hox : ObOk x) (hH : Hp HX w) : Calls Tryz.prog 316 #[objV x xd xe xp] w (Ret w [] fun v H1 => v = objV (⟨x.k, [], [], x.t, x.pars, (⟨0, (fun _ => 0)⟩ : Lnk), x.m⟩ : Ob) (.slice none 0 0) (.slice none 0 0) xp ∧ H1 = []) := by
 refine fn_enter (args := [_]) func316 rfl ntmps316 rfl hH (sq (pl (TE_boxC (objV x xd xe xp).cells rfl rfl rfl trivial rfl fun b1 hb1 => (TE_allocC (objV (⟨0, [], [], (fun _ => 0), [], (⟨0, (fun _ => 0)⟩ : Lnk), ⟨#[]⟩⟩ : Ob) (.slice none 0 0) (.slice none 0 0) (.slice none 0 0)).cells rfl zeroValue62 rfl trivial rfl fun b2 hb2 => (n0 (sq (pl (qq rfl (RD.fieldAddr (o := 0) runUnderlying267 rfl rfl sizeOf62 rfl) (qq rfl (RD.fieldAddr (o := 0) runUnderlying62 rfl rfl sizeOf3 rfl) ?_)))))))))
 refine ql rfl (RD.load (i := 1) (v := .int .i64 x.k) isAgg3 rfl rfl rfl) (qq rfl (RD.fieldAddr (o := 0) runUnderlying267 rfl rfl sizeOf62 rfl) (qq rfl (RD.fieldAddr (o := 3) runUnderlying62 rfl rfl sizeOf35 rfl) (ql rfl (RD.loadA (i := 1) (v := idV x.t) isAgg35 sizeOf35 rfl rfl (Nat.le_of_ble_eq_true rfl) (obj_t _ _ _ _)) (qq rfl (RD.fieldAddr (o := 0) runUnderlying267 rfl rfl sizeOf62 rfl) (qq rfl (RD.fieldAddr (o := 35) runUnderlying62 rfl rfl sizeOf41 rfl) (ql rfl (RD.load (i := 1) (v := xp) isAgg41 rfl rfl rfl) (qq rfl (RD.fieldAddr (o := 0) runUnderlying267 rfl rfl sizeOf62 rfl) (qq rfl (RD.fieldAddr (o := 69) runUnderlying62 rfl rfl sizeOf9 rfl) (ql rfl (RD.load (i := 1) (v := .string x.m) isAgg9 rfl rfl rfl) ?_)))))))))
 exact qq rfl (RD.build (v := objV (⟨x.k, [], [], x.t, x.pars, (⟨0, (fun _ => 0)⟩ : Lnk), x.m⟩ : Ob) (.slice none 0 0) (.slice none 0 0) xp) rfl (fun w => by obtain ⟨a0, c0, e0⟩ := (hbxp).shape; rw [e0]; kernel_rfl)) (TE_putCW 0 _ _ ((b2, .cells (objV (⟨x.k, [], [], x.t, x.pars, (⟨0, (fun _ => 0)⟩ : Lnk), x.m⟩ : Ob) (.slice none 0 0) (.slice none 0 0) xp).cells 62 (0, 0)) :: (b1, .cells (objV x xd xe xp).cells 267 (0, 0)) :: HX) rfl sizeOf62 trivial rfl rfl rfl (objV_one _ _ _ _ rfl rfl (by obtain ⟨a, c, e⟩ := (hbxp).shape; rw [e]; rfl)) rfl rfl rfl rfl (.inl hb2) (n0 (rt (pn_doneF rfl ⟨objV (⟨x.k, [], [], x.t, x.pars, (⟨0, (fun _ => 0)⟩ : Lnk), x.m⟩ : Ob) (.slice none 0 0) (.slice none 0 0) xp, _, b2, 0, rfl, rfl, load_agg (i := 0) isAgg62 sizeOf62 rfl (Nat.le_of_ble_eq_true rfl) (obj_all _ _ _ _), rfl⟩ ⟨rfl, rfl⟩ (fun _ h => h.sp (fun _ => Nat.zero_le _)) (fun _ he => nomatch he)))))
theorem c_tagBare (x : Ob) (xd : Value) (xe : Value) (xp : Value) (HX : Mem) (w : World) (hbxd : Rdb HX xd x.data) (hbxe : Rdx 34 (entC) HX xe x.ents) (hbxp : Rdx 32 (idC) HX xp x.pars) (hox : ObOk x) (hH : Hp HX w) : Calls Tryz.prog 321 #[objV x xd xe xp] w (Ret w [] fun v H1 => v = objV (⟨x.k, [], [], (fun _ => 0), [], x.tg, x.m⟩ : Ob) (.slice none 0 0) (.slice none 0 0) (.slice none 0 0) ∧ H1 = []) := by
 refine fn_enter (args := [_]) func321 rfl ntmps321 rfl hH (sq (pl (TE_boxC (objV x xd xe xp).cells rfl rfl rfl trivial rfl fun b1 hb1 => (TE_allocC (objV (⟨0, [], [], (fun _ => 0), [], (⟨0, (fun _ => 0)⟩ : Lnk), ⟨#[]⟩⟩ : Ob) (.slice none 0 0) (.slice none 0 0) (.slice none 0 0)).cells rfl zeroValue62 rfl trivial rfl fun b2 hb2 => (n0 (sq (pl (qq rfl (RD.fieldAddr (o := 0) runUnderlying268 rfl rfl sizeOf62 rfl) (qq rfl (RD.fieldAddr (o := 0) runUnderlying62 rfl rfl sizeOf3 rfl) ?_)))))))))
 refine ql rfl (RD.load (i := 1) (v := .int .i64 x.k) isAgg3 rfl rfl rfl) (qq rfl (RD.fieldAddr (o := 0) runUnderlying268 rfl rfl sizeOf62 rfl) (qq rfl (RD.fieldAddr (o := 36) runUnderlying62 rfl rfl sizeOf60 rfl) (ql rfl (RD.loadA (i := 1) (v := lnkV x.tg) isAgg60 sizeOf60 rfl rfl (Nat.le_of_ble_eq_true rfl) (obj_tg _ _ _ _)) (qq rfl (RD.fieldAddr (o := 0) runUnderlying268 rfl rfl sizeOf62 rfl) (qq rfl (RD.fieldAddr (o := 69) runUnderlying62 rfl rfl sizeOf9 rfl) (ql rfl (RD.load (i := 1) (v := .string x.m) isAgg9 rfl rfl rfl) (qq rfl (RD.build (v := objV (⟨x.k, [], [], (fun _ => 0), [], x.tg, x.m⟩ : Ob) (.slice none 0 0) (.slice none 0 0) (.slice none 0 0)) rfl (fun w => by kernel_rfl)) (TE_putCW 0 _ _ ((b2, .cells (objV (⟨x.k, [], [], (fun _ => 0), [], x.tg, x.m⟩ : Ob) (.slice none 0 0) (.slice none 0 0) (.slice none 0 0)).cells 62 (0, 0)) :: (b1, .cells (objV x xd xe xp).cells 268 (0, 0)) :: HX) rfl sizeOf62 trivial rfl rfl rfl (objV_one _ _ _ _ rfl rfl rfl) rfl rfl rfl rfl (.inl hb2) (n0 ?_)))))))))
 exact rt (pn_doneF rfl ⟨objV (⟨x.k, [], [], (fun _ => 0), [], x.tg, x.m⟩ : Ob) (.slice none 0 0) (.slice none 0 0) (.slice none 0 0), _, b2, 0, rfl, rfl, load_agg (i := 0) isAgg62 sizeOf62 rfl (Nat.le_of_ble_eq_true rfl) (obj_all _ _ _ _), rfl⟩ ⟨rfl, rfl⟩ (fun _ h => h.sp (fun _ => Nat.zero_le _)) (fun _ he => nomatch he))
theorem c_of7 (x : Ob) (xd : Value) (xe : Value) (xp : Value) (HX : Mem) (w : World) (hbxd : Rdb HX xd x.data) (hbxe : Rdx 34 (entC) HX xe x.ents) (hbxp : Rdx 32 (idC) HX xp x.pars) (hox : ObOk x) (hH : Hp HX w) : Calls Tryz.prog 123 #[objV x xd xe xp] w (Ret w [] fun v H1 => (x.k = 1 ∧ v = .tuple #[.iface 265 (objV x xd xe xp), .bool true] ∧ H1 = []) ∨ (x.k = 2 ∧ v = .tuple #[.iface 266 (objV x xd xe xp), .bool true] ∧ H1 = []) ∨ (x.k = 3 ∧ v = .tuple #[.iface 267 (objV x xd xe xp), .bool true] ∧ H1 = []) ∨ (x.k = 4 ∧ v = .tuple #[.iface 268 (objV x xd xe xp), .bool true] ∧ H1 = []) ∨ (((¬ x.k = 1 ∧ ¬ x.k = 2) ∧ ¬ x.k = 3) ∧ ¬ x.k = 4) ∧ v = .tuple #[.nilIface, .bool false] ∧ H1 = []) := by
 refine fn_enter (args := [_]) func123 rfl ntmps123 rfl hH (sq (pl (TE_boxC (objV x xd xe xp).cells rfl rfl rfl trivial rfl fun b1 hb1 => (qa rfl (qa rfl (n0 (sq (sq (pl ?_)))))))))
 refine qq rfl (RD.fieldAddr (o := 0) runUnderlying62 rfl rfl sizeOf3 rfl) (ql rfl (RD.load (i := 0) (v := .int .i64 x.k) isAgg3 rfl rfl rfl) (n0 (pn_block (sq (pl (qq rfl (RD.eql rfl rfl) (qa rfl (n0 (pn_condD rfl (fun hc1 => ?_) (fun hc1 => ?_))))))))))
 ·exact sq (pl (ql rfl (RD.loadA (i := 0) isAgg62 sizeOf62 rfl rfl (Nat.le_of_ble_eq_true rfl) (obj_all _ _ _ _)) (qq rfl (RD.build (v := objV x xd xe xp) rfl (bd_object_blob x xd xe xp)) (qq rfl (RD.mkIface underlying265 (fun _ h => nomatch h) rfl) (qa rfl (qa rfl (n0 (rt (pn_doneS [] rfl rfl (.inl ⟨hc1, rfl, rfl⟩) (fun _ => Nat.zero_le _) (fun _ he => nomatch he))))))))))
 ·refine sq (pl (qq rfl (RD.eql rfl rfl) (qa rfl (n0 (pn_condD rfl (fun hc2 => ?_) (fun hc2 => ?_))))))
  ·exact sq (pl (ql rfl (RD.loadA (i := 0) isAgg62 sizeOf62 rfl rfl (Nat.le_of_ble_eq_true rfl) (obj_all _ _ _ _)) (qq rfl (RD.build (v := objV x xd xe xp) rfl (bd_object_tree x xd xe xp)) (qq rfl (RD.mkIface underlying266 (fun _ h => nomatch h) rfl) (qa rfl (qa rfl (n0 (rt (pn_doneS [] rfl rfl (.inr (.inl ⟨hc2, rfl, rfl⟩)) (fun _ => Nat.zero_le _) (fun _ he => nomatch he))))))))))
  ·refine sq (pl (qq rfl (RD.eql rfl rfl) (qa rfl (n0 (pn_condD rfl (fun hc3 => ?_) (fun hc3 => ?_))))))
   ·exact sq (pl (ql rfl (RD.loadA (i := 0) isAgg62 sizeOf62 rfl rfl (Nat.le_of_ble_eq_true rfl) (obj_all _ _ _ _)) (qq rfl (RD.build (v := objV x xd xe xp) rfl (bd_object_commit x xd xe xp)) (qq rfl (RD.mkIface underlying267 (fun _ h => nomatch h) rfl) (qa rfl (qa rfl (n0 (rt (pn_doneS [] rfl rfl (.inr (.inr (.inl ⟨hc3, rfl, rfl⟩))) (fun _ => Nat.zero_le _) (fun _ he => nomatch he))))))))))
   ·refine sq (pl (qq rfl (RD.eql rfl rfl) (qa rfl (n0 (pn_condD rfl (fun hc4 => ?_) (fun hc4 => ?_))))))
    ·exact sq (pl (ql rfl (RD.loadA (i := 0) isAgg62 sizeOf62 rfl rfl (Nat.le_of_ble_eq_true rfl) (obj_all _ _ _ _)) (qq rfl (RD.build (v := objV x xd xe xp) rfl (bd_object_tag x xd xe xp)) (qq rfl (RD.mkIface underlying268 (fun _ h => nomatch h) rfl) (qa rfl (qa rfl (n0 (rt (pn_doneS [] rfl rfl (.inr (.inr (.inr (.inl ⟨hc4, rfl, rfl⟩)))) (fun _ => Nat.zero_le _) (fun _ he => nomatch he))))))))))
    ·exact sk (sq (plG [] [] (qa rfl (qa rfl (n0 (rt (pn_doneS [] rfl rfl (.inr (.inr (.inr (.inr ⟨⟨⟨⟨hc1, hc2⟩, hc3⟩, hc4⟩, rfl, rfl⟩)))) (fun _ => Nat.zero_le _) (fun _ he => nomatch he))))))))
theorem c_obSame (x : Ob) (xd : Value) (xe : Value) (xp : Value) (y : Ob) (yd : Value) (ye : Value) (yp : Value) (HX : Mem) (w : World) (hbxd : Rdb HX xd x.data) (hbxe : Rdx 34 (entC) HX xe x.ents) (hbxp : Rdx 32 (idC) HX xp x.pars) (hbyd : Rdb HX yd y.data) (hbye : Rdx 34 (entC) HX ye y.ents) (hbyp : Rdx 32 (idC) HX yp y.pars) (hxl : x.ents.length ≤ 1000000 ∧ x.pars.length ≤ 1000000) (hyl : y.ents.length ≤ 1000000 ∧ y.pars.length ≤ 1000000) (hH : Hp HX w) : Calls Tryz.prog 139 #[objV x xd xe xp, objV y yd ye yp] w (Ret w [] fun v H1 => v = .bool (obSame x y) ∧ H1 = []) := by
 have hx1 := hxl.1; have hx2 := hxl.2; have hy1 := hyl.1; have hy2 := hyl.2
 refine fn_enter (args := [_, _]) func139 rfl ntmps139 rfl hH (sq (pl (TE_boxC (objV x xd xe xp).cells rfl rfl rfl trivial rfl fun b2 hb2 => (TE_boxC (objV y yd ye yp).cells rfl rfl rfl trivial rfl fun b3 hb3 => (qa rfl (n0 (sq (pl (qq rfl (RD.fieldAddr (o := 0) runUnderlying62 rfl rfl sizeOf3 rfl) ?_)))))))))
 refine ql rfl (RD.load (i := 1) (v := .int .i64 x.k) isAgg3 rfl rfl rfl) (qq rfl (RD.fieldAddr (o := 0) runUnderlying62 rfl rfl sizeOf3 rfl) (ql rfl (RD.load (i := 0) (v := .int .i64 y.k) isAgg3 rfl rfl rfl) (qq rfl (RD.eql rfl rfl) (qm rfl (TE_join (σ := Unit) (fun _ => [(4, .bool ((decide (x.k = y.k)) && ((decide (x.data = y.data)) && ((sameGL same_ent x.ents y.ents) && ((sameN 32 x.t y.t) && ((sameIL x.pars y.pars) && ((same_lnk x.tg y.tg) && (decide (x.m = y.m)))))))))]) (fun _ => ((b3, .cells (objV y yd ye yp).cells 62 (0, 0)) :: (b2, .cells (objV x xd xe xp).cells 62 (0, 0)) :: HX)) (fun _ => True) ?_ ?_)))))
 ·refine TE_dec (fun hf1 => ?_) (fun hf1 => ?_)
  ·refine TE_gq rfl rfl rfl rfl (RD.fieldAddr (o := 1) runUnderlying62 rfl rfl sizeOf32 rfl) rfl (ql rfl (RD.load (i := 1) (v := xd) isAgg32 rfl rfl rfl) (TE_gq rfl rfl rfl rfl (RD.fieldAddr (o := 1) runUnderlying62 rfl rfl sizeOf32 rfl) rfl (ql rfl (RD.load (i := 0) (v := yd) isAgg32 rfl rfl rfl) (cG rfl call180 (fun w hw => c_bytesEqual xd x.data yd y.data HX w hbxd.s hbyd.s hw.s) ?_))))
   rintro v2 H3 ⟨rfl, rfl⟩ -
   refine qT rfl (qm rfl (TE_dec (fun hf4 => ?_) (fun hf4 => ?_)))
   ·refine TE_gq rfl rfl rfl rfl (RD.fieldAddr (o := 2) runUnderlying62 rfl rfl sizeOf58 rfl) rfl (ql rfl (RD.load (i := 1) (v := xe) isAgg58 rfl rfl rfl) (TE_gq rfl rfl rfl rfl (RD.fieldAddr (o := 2) runUnderlying62 rfl rfl sizeOf58 rfl) rfl (ql rfl (RD.load (i := 0) (v := ye) isAgg58 rfl rfl rfl) (cG rfl call181 (fun w hw => c_equalE xe x.ents ye y.ents HX w hbxe.s (by first | assumption | omega | (simp; done) | (simp; omega)) hbye.s (by first | assumption | omega | (simp; done) | (simp; omega)) hw.s) ?_))))
    rintro v5 H6 ⟨rfl, rfl⟩ -
    refine qT rfl (qm rfl (TE_bool (fun hf7 => ?_) (fun hf7 => ?_)))
    ·refine TE_gq rfl rfl rfl rfl (RD.fieldAddr (o := 3) runUnderlying62 rfl rfl sizeOf35 rfl) rfl (ql rfl (RD.loadA (i := 1) (v := idV x.t) isAgg35 sizeOf35 rfl rfl (Nat.le_of_ble_eq_true rfl) (obj_t _ _ _ _)) (TE_gq rfl rfl rfl rfl (RD.fieldAddr (o := 3) runUnderlying62 rfl rfl sizeOf35 rfl) rfl (ql rfl (RD.loadA (i := 0) (v := idV y.t) isAgg35 sizeOf35 rfl rfl (Nat.le_of_ble_eq_true rfl) (obj_t _ _ _ _)) (TE_gq rfl rfl rfl rfl (RD.eql_agg eqGuardType35 (eq_id x.t y.t) rfl rfl) rfl (qT rfl (qm rfl (TE_bool (fun hf8 => ?_) (fun hf8 => ?_))))))))
     ·refine TE_gq rfl rfl rfl rfl (RD.fieldAddr (o := 35) runUnderlying62 rfl rfl sizeOf41 rfl) rfl (ql rfl (RD.load (i := 1) (v := xp) isAgg41 rfl rfl rfl) (TE_gq rfl rfl rfl rfl (RD.fieldAddr (o := 35) runUnderlying62 rfl rfl sizeOf41 rfl) rfl (ql rfl (RD.load (i := 0) (v := yp) isAgg41 rfl rfl rfl) (cG rfl call182 (fun w hw => c_equalI xp x.pars yp y.pars HX w hbxp.s (by first | assumption | omega | (simp; done) | (simp; omega)) hbyp.s (by first | assumption | omega | (simp; done) | (simp; omega)) hw.s) ?_))))
      rintro v9 H10 ⟨rfl, rfl⟩ -
      refine qT rfl (qm rfl (TE_bool (fun hf11 => ?_) (fun hf11 => ?_)))
      ·refine TE_gq rfl rfl rfl rfl (RD.fieldAddr (o := 36) runUnderlying62 rfl rfl sizeOf60 rfl) rfl (ql rfl (RD.loadA (i := 1) (v := lnkV x.tg) isAgg60 sizeOf60 rfl rfl (Nat.le_of_ble_eq_true rfl) (obj_tg _ _ _ _)) (TE_gq rfl rfl rfl rfl (RD.fieldAddr (o := 36) runUnderlying62 rfl rfl sizeOf60 rfl) rfl (ql rfl (RD.loadA (i := 0) (v := lnkV y.tg) isAgg60 sizeOf60 rfl rfl (Nat.le_of_ble_eq_true rfl) (obj_tg _ _ _ _)) (TE_gq rfl rfl rfl rfl (RD.eql_agg eqGuardType60 (eq_lnk x.tg y.tg) rfl rfl) rfl (qT rfl (qm rfl (TE_bool (fun hf12 => ?_) (fun hf12 => ?_))))))))
       ·exact TE_gq rfl rfl rfl rfl (RD.fieldAddr (o := 69) runUnderlying62 rfl rfl sizeOf9 rfl) rfl (ql rfl (RD.load (i := 1) (v := .string x.m) isAgg9 rfl rfl rfl) (TE_gq rfl rfl rfl rfl (RD.fieldAddr (o := 69) runUnderlying62 rfl rfl sizeOf9 rfl) rfl (ql rfl (RD.load (i := 0) (v := .string y.m) isAgg9 rfl rfl rfl) (TE_gq rfl rfl rfl rfl (RD.eql_string rfl rfl) rfl (qT rfl (qa rfl (n0 (pn_give () trivial ⟨congrArg (fun b => some (Value.bool b)) (by first | (simp [hf1, hf4, hf7, hf8, hf11, hf12]; done) | (simp only [decide_eq_true hf1, decide_eq_true hf4, hf7, hf8, hf11, hf12]; rfl) | (simp only [decide_eq_true hf1, decide_eq_true hf4, hf7, hf8, hf11, hf12]; simp; done)), trivial⟩ sb))))))))
       ·exact qs rfl (qs rfl (qs rfl (qs rfl (qs rfl (qF rfl (qa rfl (n0 (pn_give () trivial ⟨congrArg (fun b => some (Value.bool b)) (by first | (simp [hf1, hf4, hf7, hf8, hf11, hf12]; done) | (simp only [decide_eq_true hf1, decide_eq_true hf4, hf7, hf8, hf11, hf12]; rfl) | (simp only [decide_eq_true hf1, decide_eq_true hf4, hf7, hf8, hf11, hf12]; simp; done)), trivial⟩ sb))))))))
      ·refine qs rfl (qs rfl (qs rfl (qs rfl (qs rfl (qF rfl (qm rfl (qs rfl (qs rfl (qs rfl ?_)))))))))
       exact qs rfl (qs rfl (qF rfl (qa rfl (n0 (pn_give () trivial ⟨congrArg (fun b => some (Value.bool b)) (by first | (simp [hf1, hf4, hf7, hf8, hf11]; done) | (simp only [decide_eq_true hf1, decide_eq_true hf4, hf7, hf8, hf11]; rfl) | (simp only [decide_eq_true hf1, decide_eq_true hf4, hf7, hf8, hf11]; simp; done)), trivial⟩ sb)))))
     ·refine qs rfl (qs rfl (qs rfl (qs rfl (qs rfl (qF rfl (qm rfl (qs rfl (qs rfl (qs rfl ?_)))))))))
      refine qs rfl (qs rfl (qF rfl (qm rfl (qs rfl (qs rfl (qs rfl (qs rfl (qs rfl (qF rfl ?_)))))))))
      exact qa rfl (n0 (pn_give () trivial ⟨congrArg (fun b => some (Value.bool b)) (by first | (simp [hf1, hf4, hf7, hf8]; done) | (simp only [decide_eq_true hf1, decide_eq_true hf4, hf7, hf8]; rfl) | (simp only [decide_eq_true hf1, decide_eq_true hf4, hf7, hf8]; simp; done)), trivial⟩ sb))
    ·refine qs rfl (qs rfl (qs rfl (qs rfl (qs rfl (qF rfl (qm rfl (qs rfl (qs rfl (qs rfl ?_)))))))))
     refine qs rfl (qs rfl (qF rfl (qm rfl (qs rfl (qs rfl (qs rfl (qs rfl (qs rfl (qF rfl ?_)))))))))
     exact qm rfl (qs rfl (qs rfl (qs rfl (qs rfl (qs rfl (qF rfl (qa rfl (n0 (pn_give () trivial ⟨congrArg (fun b => some (Value.bool b)) (by first | (simp [hf1, hf4, hf7]; done) | (simp only [decide_eq_true hf1, decide_eq_true hf4, hf7]; rfl) | (simp only [decide_eq_true hf1, decide_eq_true hf4, hf7]; simp; done)), trivial⟩ sb)))))))))
   ·refine qs rfl (qs rfl (qs rfl (qs rfl (qs rfl (qF rfl (qm rfl (qs rfl (qs rfl (qs rfl ?_)))))))))
    refine qs rfl (qs rfl (qF rfl (qm rfl (qs rfl (qs rfl (qs rfl (qs rfl (qs rfl (qF rfl ?_)))))))))
    refine qm rfl (qs rfl (qs rfl (qs rfl (qs rfl (qs rfl (qF rfl (qm rfl (qs rfl (qs rfl ?_)))))))))
    exact qs rfl (qs rfl (qs rfl (qF rfl (qa rfl (n0 (pn_give () trivial ⟨congrArg (fun b => some (Value.bool b)) (by first | (simp [hf1, hf4]; done) | (simp only [decide_eq_true hf1, decide_eq_false hf4]; rfl) | (simp only [decide_eq_true hf1, decide_eq_false hf4]; simp; done)), trivial⟩ sb))))))
  ·refine qs rfl (qs rfl (qs rfl (qs rfl (qs rfl (qF rfl (qm rfl (qs rfl (qs rfl (qs rfl ?_)))))))))
   refine qs rfl (qs rfl (qF rfl (qm rfl (qs rfl (qs rfl (qs rfl (qs rfl (qs rfl (qF rfl ?_)))))))))
   refine qm rfl (qs rfl (qs rfl (qs rfl (qs rfl (qs rfl (qF rfl (qm rfl (qs rfl (qs rfl ?_)))))))))
   refine qs rfl (qs rfl (qs rfl (qF rfl (qm rfl (qs rfl (qs rfl (qs rfl (qs rfl (qs rfl ?_)))))))))
   exact qF rfl (qa rfl (n0 (pn_give () trivial ⟨congrArg (fun b => some (Value.bool b)) (by first | (simp [hf1]; done) | (simp only [decide_eq_false hf1]; rfl) | (simp only [decide_eq_false hf1]; simp; done)), trivial⟩ sb)))
 rintro _ -
 exact rt (pn_doneS [] rfl rfl ⟨rfl, rfl⟩ (fun _ => Nat.zero_le _) (fun _ he => nomatch he))
end Go.Proofs.YtcmnmigcalibdaaGreatDoor

namespace Go.Proofs.YtcmnmigcalibdaaGreatDoor
open Go.Proofs.Tryz
open Go Go.Mv
set_option maxRecDepth 8000
theorem okK1 {x : Ob} (hk : x.k = 1) : obOkB x = (decide ((x.data.length : Int) ≤ 1024) && obSame (⟨x.k, x.data, [], (fun _ => 0), [], (⟨0, (fun _ => 0)⟩ : Lnk), ⟨#[]⟩⟩ : Ob) x) := by
  rw [obOkB, mayB, bareOb, if_pos hk, if_pos hk]
  congr 1
  exact decide_eq_decide.2 (by omega)
theorem okK2 {x : Ob} (hk : x.k = 2) : obOkB x = (treeB x.ents && obSame (⟨x.k, [], x.ents, (fun _ => 0), [], (⟨0, (fun _ => 0)⟩ : Lnk), ⟨#[]⟩⟩ : Ob) x) := by
  have h1 : ¬ x.k = 1 := by omega
  rw [obOkB, mayB, bareOb, if_neg h1, if_neg h1, if_pos hk, if_pos hk]
  rfl
theorem okK3 {x : Ob} (hk : x.k = 3) : obOkB x = ((parsB x.pars && decide ((x.m.size : Int) ≤ 200)) && obSame (⟨x.k, [], [], x.t, x.pars, (⟨0, (fun _ => 0)⟩ : Lnk), x.m⟩ : Ob) x) := by
  have h1 : ¬ x.k = 1 := by omega
  have h2 : ¬ x.k = 2 := by omega
  rw [obOkB, mayB, bareOb, if_neg h1, if_neg h1, if_neg h2, if_neg h2, if_pos hk, if_pos hk]
  congr 1
  congr 1
  exact decide_eq_decide.2 (by omega)
theorem okK4 {x : Ob} (hk : x.k = 4) : obOkB x = (((decide (1 ≤ x.tg.k) && decide (x.tg.k ≤ 4)) && decide ((x.m.size : Int) ≤ 200)) && obSame (⟨x.k, [], [], (fun _ => 0), [], x.tg, x.m⟩ : Ob) x) := by
  have h1 : ¬ x.k = 1 := by omega
  have h2 : ¬ x.k = 2 := by omega
  have h3 : ¬ x.k = 3 := by omega
  rw [obOkB, mayB, bareOb, if_neg h1, if_neg h1, if_neg h2, if_neg h2, if_neg h3, if_neg h3, if_pos hk]
  congr 1
  congr 1
  exact decide_eq_decide.2 (by omega)
theorem chkE_F {x : Ob} {m s e : Bool} (h : obOkB x = (m && s)) (he : e = (!m || !s)) (hc : e = true) : (70 : Int) = err (obOkB x) 70 := by
  rw [h]; rw [he] at hc; revert hc; cases m <;> cases s <;> first | exact fun _ => rfl | exact fun h => by cases h
theorem chkE_T {x : Ob} {m s e : Bool} (h : obOkB x = (m && s)) (he : e = (!m || !s)) (hc : e = false) : (0 : Int) = err (obOkB x) 70 := by
  rw [h]; rw [he] at hc; revert hc; cases m <;> cases s <;> first | exact fun _ => rfl | exact fun h => by cases h

theorem c_obCheck (x : Ob) (xd : Value) (xe : Value) (xp : Value) (HX : Mem) (w : World) (hbxd : Rdb HX xd x.data) (hbxe : Rdx 34 (entC) HX xe x.ents) (hbxp : Rdx 32 (idC) HX xp x.pars) (hox : ObOk x) (hH : Hp HX w) : Calls Tryz.prog 70 #[objV x xd xe xp] w (Ret w [] fun v H1 => v = .int .i64 (err (obOkB x) 70) ∧ H1 = []) := by
 have hw1 := hox.d; have hw2 := hox.e; have hw3 := hox.p; have hw4 := hox.m; have hwe := hox.en
 refine fn_enter (args := [_]) func70 rfl ntmps70 rfl hH (sq (pl (TE_boxC (objV x xd xe xp).cells rfl rfl rfl trivial rfl fun b1 hb1 => (qa rfl (n0 (sq (pl (ql rfl (RD.loadA (i := 0) isAgg62 sizeOf62 rfl rfl (Nat.le_of_ble_eq_true rfl) (obj_all _ _ _ _)) (cG rfl call123 (fun w hw => c_of7 x xd xe xp HX w hbxd.s hbxe.s hbxp.s hox hw.s) ?_)))))))))
 rintro v9 H10 (⟨hk1, rfl, rfl⟩ | ⟨hk2, rfl, rfl⟩ | ⟨hk3, rfl, rfl⟩ | ⟨hk4, rfl, rfl⟩ | ⟨⟨⟨⟨hk5, hk6⟩, hk7⟩, hk8⟩, rfl, rfl⟩) hX11
 ·refine qm rfl (qe rfl (qe rfl (qa rfl (qa rfl (n0 (sq (sq (dG [10] [] ((b1, .cells (objV x xd xe xp).cells 62 (0, 0)) :: HX) (qm rfl ?_)))))))))
  refine qq rfl (RD.as (v := .bool false) (RD.not rfl) rfl) (qm rfl (qg rfl (TE_invM _ [] [] HX inv_blob_may rfl rfl ⟨_, rfl, rfl⟩ rfl rfl rfl own0 (fun a => by simp -failIfUnchanged <;> omega) (fun w hw => c_blobMay x xd xe xp HX w hbxd.s hbxe.s hbxp.s hox hw.s) (fun a => by simp -failIfUnchanged <;> omega) ?_)))
  rintro v12 H13 ⟨rfl, rfl⟩ -
  refine tsp [] (TE_gq rfl rfl rfl rfl (RD.not rfl) rfl (qF rfl (qm rfl (TE_join (σ := Unit) (fun _ => [(23, .bool ((!decide ((x.data.length : Int) ≤ 1024)) || (!(obSame (⟨x.k, x.data, [], (fun _ => 0), [], (⟨0, (fun _ => 0)⟩ : Lnk), ⟨#[]⟩⟩ : Ob) x))))]) (fun _ => ((b1, .cells (objV x xd xe xp).cells 62 (0, 0)) :: HX)) (fun _ => True) ?_ ?_))))
  ·refine TE_ndec (fun hf14 => ?_) (fun hf14 => ?_)
   ·exact qs rfl (qs rfl (qs rfl (qs rfl (qs rfl (qT rfl (TE_nil (pn_give () trivial ⟨congrArg (fun b => some (Value.bool b)) (by first | (simp [hf14]; done) | (simp only [decide_eq_false hf14]; rfl) | (simp only [decide_eq_false hf14]; simp; done)), trivial⟩ sb)))))))
   ·refine qg rfl (TE_invM _ [] [] HX inv_blob_bare rfl rfl ⟨_, rfl, rfl⟩ rfl rfl rfl own0 (fun a => by simp -failIfUnchanged <;> omega) (fun w hw => c_blobBare x xd xe xp HX w hbxd.s hbxe.s hbxp.s hox hw.s) (fun a => by simp -failIfUnchanged <;> omega) ?_)
    rintro v15 H16 ⟨rfl, rfl⟩ -
    refine tsp [] (TE_gq rfl rfl rfl rfl (RD.loadA (i := 0) isAgg62 sizeOf62 rfl rfl (Nat.le_of_ble_eq_true rfl) (obj_all _ _ _ _)) rfl (cG rfl call139 (fun w hw => c_obSame (⟨x.k, x.data, [], (fun _ => 0), [], (⟨0, (fun _ => 0)⟩ : Lnk), ⟨#[]⟩⟩ : Ob) xd (.slice none 0 0) (.slice none 0 0) x xd xe xp HX w hbxd.s Rdx.nil Rdx.nil hbxd.s hbxe.s hbxp.s ⟨(by first | omega | (dsimp only [List.length_nil]; omega) | simp), (by first | omega | (dsimp only [List.length_nil]; omega) | simp)⟩ ⟨(by first | omega | (dsimp only [List.length_nil]; omega) | simp), (by first | omega | (dsimp only [List.length_nil]; omega) | simp)⟩ hw.s) ?_))
    rintro v17 H18 ⟨rfl, rfl⟩ -
    exact TE_gq rfl rfl rfl rfl (RD.not rfl) rfl (qF rfl (TE_nil (pn_give () trivial ⟨congrArg (fun b => some (Value.bool b)) (by first | (simp [hf14]; done) | (simp only [decide_eq_true hf14]; rfl) | (simp only [decide_eq_true hf14]; simp; done)), trivial⟩ sb)))
  rintro _ -
  refine pn_cond rfl (fun hc19 => ?_) (fun hc19 => ?_)
  ·exact sq (plG [] [] (qa rfl (n0 (rt (pn_doneS [] rfl rfl ⟨(congrArg (Value.int .i64) (chkE_F (okK1 hk1) rfl hc19)), rfl⟩ (fun _ => Nat.zero_le _) (fun _ he => nomatch he))))))
  ·exact sk (sq (plG [] [] (qa rfl (n0 (rt (pn_doneS [] rfl rfl ⟨(congrArg (Value.int .i64) (chkE_T (okK1 hk1) rfl hc19)), rfl⟩ (fun _ => Nat.zero_le _) (fun _ he => nomatch he)))))))
 ·refine qm rfl (qe rfl (qe rfl (qa rfl (qa rfl (n0 (sq (sq (dG [10] [] ((b1, .cells (objV x xd xe xp).cells 62 (0, 0)) :: HX) (qm rfl ?_)))))))))
  refine qq rfl (RD.as (v := .bool false) (RD.not rfl) rfl) (qm rfl (qg rfl (TE_invM _ [] [] HX inv_tree_may rfl rfl ⟨_, rfl, rfl⟩ rfl rfl rfl own0 (fun a => by simp -failIfUnchanged <;> omega) (fun w hw => c_treeMay x xd xe xp HX w hbxd.s hbxe.s hbxp.s hox hw.s) (fun a => by simp -failIfUnchanged <;> omega) ?_)))
  rintro v20 H21 ⟨rfl, rfl⟩ -
  refine tsp [] (TE_gq rfl rfl rfl rfl (RD.not rfl) rfl (qF rfl (qm rfl (TE_join (σ := Unit) (fun _ => [(23, .bool ((!(treeB x.ents)) || (!(obSame (⟨x.k, [], x.ents, (fun _ => 0), [], (⟨0, (fun _ => 0)⟩ : Lnk), ⟨#[]⟩⟩ : Ob) x))))]) (fun _ => ((b1, .cells (objV x xd xe xp).cells 62 (0, 0)) :: HX)) (fun _ => True) ?_ ?_))))
  ·refine TE_bool (fun hf22 => ?_) (fun hf22 => ?_)
   ·exact qs rfl (qs rfl (qs rfl (qs rfl (qs rfl (qT rfl (TE_nil (pn_give () trivial ⟨congrArg (fun b => some (Value.bool b)) (by first | (simp [hf22]; done) | (simp only [hf22]; rfl) | (simp only [hf22]; simp; done)), trivial⟩ sb)))))))
   ·refine qg rfl (TE_invM _ [] [] HX inv_tree_bare rfl rfl ⟨_, rfl, rfl⟩ rfl rfl rfl own0 (fun a => by simp -failIfUnchanged <;> omega) (fun w hw => c_treeBare x xd xe xp HX w hbxd.s hbxe.s hbxp.s hox hw.s) (fun a => by simp -failIfUnchanged <;> omega) ?_)
    rintro v23 H24 ⟨rfl, rfl⟩ -
    refine tsp [] (TE_gq rfl rfl rfl rfl (RD.loadA (i := 0) isAgg62 sizeOf62 rfl rfl (Nat.le_of_ble_eq_true rfl) (obj_all _ _ _ _)) rfl (cG rfl call139 (fun w hw => c_obSame (⟨x.k, [], x.ents, (fun _ => 0), [], (⟨0, (fun _ => 0)⟩ : Lnk), ⟨#[]⟩⟩ : Ob) (.slice none 0 0) xe (.slice none 0 0) x xd xe xp HX w (.inl ⟨⟨_, rfl⟩, rfl⟩) hbxe.s Rdx.nil hbxd.s hbxe.s hbxp.s ⟨(by first | omega | (dsimp only [List.length_nil]; omega) | simp), (by first | omega | (dsimp only [List.length_nil]; omega) | simp)⟩ ⟨(by first | omega | (dsimp only [List.length_nil]; omega) | simp), (by first | omega | (dsimp only [List.length_nil]; omega) | simp)⟩ hw.s) ?_))
    rintro v25 H26 ⟨rfl, rfl⟩ -
    exact TE_gq rfl rfl rfl rfl (RD.not rfl) rfl (qF rfl (TE_nil (pn_give () trivial ⟨congrArg (fun b => some (Value.bool b)) (by first | (simp [hf22]; done) | (simp only [hf22]; rfl) | (simp only [hf22]; simp; done)), trivial⟩ sb)))
  rintro _ -
  refine pn_cond rfl (fun hc27 => ?_) (fun hc27 => ?_)
  ·exact sq (plG [] [] (qa rfl (n0 (rt (pn_doneS [] rfl rfl ⟨(congrArg (Value.int .i64) (chkE_F (okK2 hk2) rfl hc27)), rfl⟩ (fun _ => Nat.zero_le _) (fun _ he => nomatch he))))))
  ·exact sk (sq (plG [] [] (qa rfl (n0 (rt (pn_doneS [] rfl rfl ⟨(congrArg (Value.int .i64) (chkE_T (okK2 hk2) rfl hc27)), rfl⟩ (fun _ => Nat.zero_le _) (fun _ he => nomatch he)))))))
 ·refine qm rfl (qe rfl (qe rfl (qa rfl (qa rfl (n0 (sq (sq (dG [10] [] ((b1, .cells (objV x xd xe xp).cells 62 (0, 0)) :: HX) (qm rfl ?_)))))))))
  refine qq rfl (RD.as (v := .bool false) (RD.not rfl) rfl) (qm rfl (qg rfl (TE_invM _ [] [] HX inv_commit_may rfl rfl ⟨_, rfl, rfl⟩ rfl rfl rfl own0 (fun a => by simp -failIfUnchanged <;> omega) (fun w hw => c_commitMay x xd xe xp HX w hbxd.s hbxe.s hbxp.s hox hw.s) (fun a => by simp -failIfUnchanged <;> omega) ?_)))
  rintro v28 H29 ⟨rfl, rfl⟩ -
  refine tsp [] (TE_gq rfl rfl rfl rfl (RD.not rfl) rfl (qF rfl (qm rfl (TE_join (σ := Unit) (fun _ => [(23, .bool ((!((parsB x.pars) && (decide ((x.m.size : Int) ≤ 200)))) || (!(obSame (⟨x.k, [], [], x.t, x.pars, (⟨0, (fun _ => 0)⟩ : Lnk), x.m⟩ : Ob) x))))]) (fun _ => ((b1, .cells (objV x xd xe xp).cells 62 (0, 0)) :: HX)) (fun _ => True) ?_ ?_))))
  ·refine TE_bool (fun hf30 => ?_) (fun hf30 => ?_)
   ·exact qs rfl (qs rfl (qs rfl (qs rfl (qs rfl (qT rfl (TE_nil (pn_give () trivial ⟨congrArg (fun b => some (Value.bool b)) (by first | (simp [hf30]; done) | (simp only [hf30]; rfl) | (simp only [hf30]; simp; done)), trivial⟩ sb)))))))
   ·refine qg rfl (TE_invM _ [] [] HX inv_commit_bare rfl rfl ⟨_, rfl, rfl⟩ rfl rfl rfl own0 (fun a => by simp -failIfUnchanged <;> omega) (fun w hw => c_commitBare x xd xe xp HX w hbxd.s hbxe.s hbxp.s hox hw.s) (fun a => by simp -failIfUnchanged <;> omega) ?_)
    rintro v31 H32 ⟨rfl, rfl⟩ -
    refine tsp [] (TE_gq rfl rfl rfl rfl (RD.loadA (i := 0) isAgg62 sizeOf62 rfl rfl (Nat.le_of_ble_eq_true rfl) (obj_all _ _ _ _)) rfl (cG rfl call139 (fun w hw => c_obSame (⟨x.k, [], [], x.t, x.pars, (⟨0, (fun _ => 0)⟩ : Lnk), x.m⟩ : Ob) (.slice none 0 0) (.slice none 0 0) xp x xd xe xp HX w (.inl ⟨⟨_, rfl⟩, rfl⟩) Rdx.nil hbxp.s hbxd.s hbxe.s hbxp.s ⟨(by first | omega | (dsimp only [List.length_nil]; omega) | simp), (by first | omega | (dsimp only [List.length_nil]; omega) | simp)⟩ ⟨(by first | omega | (dsimp only [List.length_nil]; omega) | simp), (by first | omega | (dsimp only [List.length_nil]; omega) | simp)⟩ hw.s) ?_))
    rintro v33 H34 ⟨rfl, rfl⟩ -
    exact TE_gq rfl rfl rfl rfl (RD.not rfl) rfl (qF rfl (TE_nil (pn_give () trivial ⟨congrArg (fun b => some (Value.bool b)) (by first | (simp [hf30]; done) | (simp only [hf30]; rfl) | (simp only [hf30]; simp; done)), trivial⟩ sb)))
  rintro _ -
  refine pn_cond rfl (fun hc35 => ?_) (fun hc35 => ?_)
  ·exact sq (plG [] [] (qa rfl (n0 (rt (pn_doneS [] rfl rfl ⟨(congrArg (Value.int .i64) (chkE_F (okK3 hk3) rfl hc35)), rfl⟩ (fun _ => Nat.zero_le _) (fun _ he => nomatch he))))))
  ·exact sk (sq (plG [] [] (qa rfl (n0 (rt (pn_doneS [] rfl rfl ⟨(congrArg (Value.int .i64) (chkE_T (okK3 hk3) rfl hc35)), rfl⟩ (fun _ => Nat.zero_le _) (fun _ he => nomatch he)))))))
 ·refine qm rfl (qe rfl (qe rfl (qa rfl (qa rfl (n0 (sq (sq (dG [10] [] ((b1, .cells (objV x xd xe xp).cells 62 (0, 0)) :: HX) (qm rfl ?_)))))))))
  refine qq rfl (RD.as (v := .bool false) (RD.not rfl) rfl) (qm rfl (qg rfl (TE_invM _ [] [] HX inv_tag_may rfl rfl ⟨_, rfl, rfl⟩ rfl rfl rfl own0 (fun a => by simp -failIfUnchanged <;> omega) (fun w hw => c_tagMay x xd xe xp HX w hbxd.s hbxe.s hbxp.s hox hw.s) (fun a => by simp -failIfUnchanged <;> omega) ?_)))
  rintro v36 H37 ⟨rfl, rfl⟩ -
  refine tsp [] (TE_gq rfl rfl rfl rfl (RD.not rfl) rfl (qF rfl (qm rfl (TE_join (σ := Unit) (fun _ => [(23, .bool ((!(((decide (1 ≤ x.tg.k)) && (decide (x.tg.k ≤ 4))) && (decide ((x.m.size : Int) ≤ 200)))) || (!(obSame (⟨x.k, [], [], (fun _ => 0), [], x.tg, x.m⟩ : Ob) x))))]) (fun _ => ((b1, .cells (objV x xd xe xp).cells 62 (0, 0)) :: HX)) (fun _ => True) ?_ ?_))))
  ·refine TE_bool (fun hf38 => ?_) (fun hf38 => ?_)
   ·exact qs rfl (qs rfl (qs rfl (qs rfl (qs rfl (qT rfl (TE_nil (pn_give () trivial ⟨congrArg (fun b => some (Value.bool b)) (by first | (simp [hf38]; done) | (simp only [hf38]; rfl) | (simp only [hf38]; simp; done)), trivial⟩ sb)))))))
   ·refine qg rfl (TE_invM _ [] [] HX inv_tag_bare rfl rfl ⟨_, rfl, rfl⟩ rfl rfl rfl own0 (fun a => by simp -failIfUnchanged <;> omega) (fun w hw => c_tagBare x xd xe xp HX w hbxd.s hbxe.s hbxp.s hox hw.s) (fun a => by simp -failIfUnchanged <;> omega) ?_)
    rintro v39 H40 ⟨rfl, rfl⟩ -
    refine tsp [] (TE_gq rfl rfl rfl rfl (RD.loadA (i := 0) isAgg62 sizeOf62 rfl rfl (Nat.le_of_ble_eq_true rfl) (obj_all _ _ _ _)) rfl (cG rfl call139 (fun w hw => c_obSame (⟨x.k, [], [], (fun _ => 0), [], x.tg, x.m⟩ : Ob) (.slice none 0 0) (.slice none 0 0) (.slice none 0 0) x xd xe xp HX w (.inl ⟨⟨_, rfl⟩, rfl⟩) Rdx.nil Rdx.nil hbxd.s hbxe.s hbxp.s ⟨(by first | omega | (dsimp only [List.length_nil]; omega) | simp), (by first | omega | (dsimp only [List.length_nil]; omega) | simp)⟩ ⟨(by first | omega | (dsimp only [List.length_nil]; omega) | simp), (by first | omega | (dsimp only [List.length_nil]; omega) | simp)⟩ hw.s) ?_))
    rintro v41 H42 ⟨rfl, rfl⟩ -
    exact TE_gq rfl rfl rfl rfl (RD.not rfl) rfl (qF rfl (TE_nil (pn_give () trivial ⟨congrArg (fun b => some (Value.bool b)) (by first | (simp [hf38]; done) | (simp only [hf38]; rfl) | (simp only [hf38]; simp; done)), trivial⟩ sb)))
  rintro _ -
  refine pn_cond rfl (fun hc43 => ?_) (fun hc43 => ?_)
  ·exact sq (plG [] [] (qa rfl (n0 (rt (pn_doneS [] rfl rfl ⟨(congrArg (Value.int .i64) (chkE_F (okK4 hk4) rfl hc43)), rfl⟩ (fun _ => Nat.zero_le _) (fun _ he => nomatch he))))))
  ·exact sk (sq (plG [] [] (qa rfl (n0 (rt (pn_doneS [] rfl rfl ⟨(congrArg (Value.int .i64) (chkE_T (okK4 hk4) rfl hc43)), rfl⟩ (fun _ => Nat.zero_le _) (fun _ he => nomatch he)))))))
 ·refine qm rfl (qe rfl (qe rfl (qa rfl (qa rfl (n0 (sq (sq (dG [10] [] ((b1, .cells (objV x xd xe xp).cells 62 (0, 0)) :: HX) (qm rfl ?_)))))))))
  refine qq rfl (RD.as (v := .bool true) (RD.not rfl) rfl) (qm rfl (qs rfl (qs rfl (qs rfl (qT rfl (qm rfl (qs rfl (qs rfl (qs rfl ?_)))))))))
  refine qs rfl (qs rfl (qT rfl (TE_nil (pn_condT rfl (sq (plG [] [] (qa rfl (n0 (rt ?_)))))))))
  exact pn_doneS [] rfl rfl ⟨(congrArg (Value.int .i64) (chkF (chk0 hk5 hk6 hk7 hk8) rfl)), rfl⟩ (fun _ => Nat.zero_le _) (fun _ he => nomatch he)
end Go.Proofs.YtcmnmigcalibdaaGreatDoor

namespace Go.Proofs.YtcmnmigcalibdaaGreatDoor
open Go Go.Mv
set_option maxRecDepth 8000
theorem c_cloneB (H : Mem) (xv : Value) (ys : List UInt8) (w : World) (hH : Hp H w) (hb : Rdx 1 byteC H xv ys) (hlen : ys.length ≤ 1000000) : Calls Tryz.prog 87 #[xv] w (Ret w [] fun v H1 => ∃ st, BldOk 1 byteC ys st ∧ v = bldVx ys st ∧ H1 = bldMx 5 byteC ys st) := by
  rcases hb.part with ⟨rfl, rfl⟩ | ⟨ad, n, c, rfl⟩
  · refine fn_enter (args := [_]) Tryz.func87 rfl Tryz.ntmps87 rfl hH ?_
    refine pn_seq ?_
    refine pn_plain [] rfl ?_
    refine TE_q rfl rfl (RD.assign rfl) rfl ?_
    refine TE_nil0 ?_
    refine pn_seq ?_
    refine pn_seq ?_
    refine pn_plain [] rfl ?_
    refine TE_q rfl rfl (RD.move rfl) rfl ?_
    refine TE_q rfl rfl (RD.sl_eql_nil Tryz.runUnderlying32 rfl rfl) rfl ?_
    refine TE_nil0 ?_
    refine pn_condT rfl ?_
    refine pn_seq ?_
    refine pn_plain [] rfl ?_
    refine TE_q rfl rfl (RD.assign rfl) rfl ?_
    refine TE_nil0 ?_
    refine pn_ret ?_
    exact pn_done (H1 := []) rfl rfl ⟨none, rfl, rfl, rfl⟩ (List.nil_sublist _) (by simp)
  · refine fn_enter (args := [_]) Tryz.func87 rfl Tryz.ntmps87 rfl hH ?_
    refine pn_seq ?_
    refine pn_plain [] rfl ?_
    refine TE_q rfl rfl (RD.assign rfl) rfl ?_
    refine TE_nil0 ?_
    refine pn_seq ?_
    refine pn_seq ?_
    refine pn_plain [] rfl ?_
    refine TE_q rfl rfl (RD.move rfl) rfl ?_
    refine TE_q rfl rfl (RD.sl_eql_nil Tryz.runUnderlying32 rfl rfl) rfl ?_
    refine TE_nil0 ?_
    refine pn_condF rfl ?_
    refine pn_skip ?_
    refine pn_seq ?_
    refine pn_plain [] rfl ?_
    refine TE_buildSlice0 rfl Tryz.runUnderlying32 Tryz.sizeOf5 trivial rfl fun b5 hb5 => ?_
    refine TE_q rfl rfl (RD.move rfl) rfl ?_
    refine TE_appendX (st := some (b5, 0, [])) (l := []) H byteC_len byteC_one rfl rfl rfl rfl trivial rfl Tryz.underlying32 elByteR rfl rfl rfl ⟨Nat.le_refl _, by decide, rfl⟩ hb (fun _ hw => hw.sp (fun a => by simp -failIfUnchanged <;> omega)) (by simp; omega) rfl (bldx_all (fun k => w.heap.size ≤ k ∨ k ∈ []) (by rintro b cap tl ⟨⟩; exact .inl hb5)) ?_
    intro st hok hX _
    refine TE_q rfl rfl (RD.assign rfl) rfl ?_
    refine TE_nil0 ?_
    refine pn_ret ?_
    exact pn_done rfl rfl ⟨st, hok, rfl, rfl⟩ (List.sublist_append_left _ _) (fun e he => (hX e he).symm)

end Go.Proofs.YtcmnmigcalibdaaGreatDoor

namespace Go.Proofs.YtcmnmigcalibdaaGreatDoor
open Go Go.Mv
set_option maxRecDepth 8000
attribute [simp] entsL_len parsL_len
def pf (P : List Lnk) : List (Nat → Int) → List Lnk
  | [] => P
  | p :: l => pf (P ++ [⟨3, p⟩]) l
@[simp] theorem pf_nil (P : List Lnk) : pf P [] = P := rfl
theorem pf_eq : ∀ (P : List Lnk) (l : List (Nat → Int)), pf P l = P ++ parsL l
  | P, [] => by simp
  | P, p :: l => by rw [pf, pf_eq]; simp [parsL]
@[simp] theorem pf_len (P : List Lnk) (l : List (Nat → Int)) : (pf P l).length = P.length + l.length := by rw [pf_eq]; simp
end Go.Proofs.YtcmnmigcalibdaaGreatDoor

namespace Go.Proofs.YtcmnmigcalibdaaGreatDoor
open Go Go.Mv
set_option maxRecDepth 8000
def strB (s : ByteArray) : List UInt8 := lebL s.data.toList.length ++ s.data.toList
def entB (e : Ent) : List UInt8 := strB e.name ++ [toB (IntKind.u8.wrap e.k)] ++ tipL e.id
def entsB (l : List Ent) : List UInt8 := l.flatMap entB
def parsW (l : List (Nat → Int)) : List UInt8 := l.flatMap tipL
@[simp] theorem entsB_nil : entsB [] = [] := rfl
@[simp] theorem parsW_nil : parsW [] = [] := rfl
end Go.Proofs.YtcmnmigcalibdaaGreatDoor

namespace Go.Proofs.YtcmnmigcalibdaaGreatDoor
open Go Go.Mv
set_option maxRecDepth 8000
def ea (P : List UInt8) : List Ent → List UInt8
  | [] => P
  | e :: l => ea (P ++ entB e) l
@[simp] theorem ea_nil (P : List UInt8) : ea P [] = P := rfl
def pa (P : List UInt8) : List (Nat → Int) → List UInt8
  | [] => P
  | e :: l => pa (P ++ tipL e) l
@[simp] theorem pa_nil (P : List UInt8) : pa P [] = P := rfl
def wB (x : Ob) : List UInt8 := if x.k = 1 then lebL x.data.length ++ x.data else if x.k = 2 then lebL x.ents.length ++ entsB x.ents else if x.k = 3 then tipL x.t ++ lebL x.pars.length ++ parsW x.pars ++ strB x.m else [toB (IntKind.u8.wrap x.tg.k)] ++ tipL x.tg.id ++ strB x.m
def obB (x : Ob) : List UInt8 := [toB (IntKind.u8.wrap x.k)] ++ wB x

end Go.Proofs.YtcmnmigcalibdaaGreatDoor
