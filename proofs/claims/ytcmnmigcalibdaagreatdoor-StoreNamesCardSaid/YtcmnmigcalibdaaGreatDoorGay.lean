import Derived.Test.YtcmnmigcalibdaaGreatDoorGax
namespace Go.Proofs.YtcmnmigcalibdaaGreatDoor
open Go.Proofs.Tryz
open Go Go.Mv
set_option maxRecDepth 8000
/-- The object of an id, and whether it is there. -/
def obx8 (m : St8) (k : Key) : Ob := if has8 m k then pX (get8 m k).raw.data.toList else ⟨0, [], [], (fun _ => 0), [], (⟨0, (fun _ => 0)⟩ : Lnk), ⟨#[]⟩⟩
def okx8 (m : St8) (k : Key) : Bool := has8 m k && decide (pE (get8 m k).raw.data.toList = 0)
theorem obx_T {m : St8} {k : Key} (h : has8 m k = true) : obx8 m k = pX (get8 m k).raw.data.toList := by rw [obx8, if_pos h]
theorem obx_F {m : St8} {k : Key} (h : has8 m k = false) : obx8 m k = ⟨0, [], [], (fun _ => 0), [], (⟨0, (fun _ => 0)⟩ : Lnk), ⟨#[]⟩⟩ := by rw [obx8, if_neg (by simp [h])]
theorem okx_T {m : St8} {k : Key} (h : has8 m k = true) : decide (pE (get8 m k).raw.data.toList = 0) = okx8 m k := by rw [okx8, h, Bool.true_and]
theorem okx_F {m : St8} {k : Key} (h : has8 m k = false) : false = okx8 m k := by rw [okx8, h, Bool.false_and]

theorem c_stObject (s : Nat) (mb : Nat) (m : St8) (f : (Nat → Int)) (w : World) (hst : StOk m) (hof : IdOk f) (hH : Hp [(s, .cells #[.int .i64 m.q, .int .i64 m.sz, .map (some mb)] 69 (0, 0)), (mb, mapO keyV en8V m.l m.c)] w) : Calls Tryz.prog 33 #[.pointer (some ⟨s, 0, none⟩), idV f] w (Ret w [] fun v H1 => ∃ s1 s2 s3, ObOk (obx8 m (kOf f)) ∧ BldOk 1 (byteC) (obx8 m (kOf f)).data s1 ∧ BldOk 34 (entC) (obx8 m (kOf f)).ents s2 ∧ BldOk 32 (idC) (obx8 m (kOf f)).pars s3 ∧ v = .tuple #[objV (obx8 m (kOf f)) (bldVx (obx8 m (kOf f)).data s1) (bldVx (obx8 m (kOf f)).ents s2) (bldVx (obx8 m (kOf f)).pars s3), .bool (okx8 m (kOf f))] ∧ H1 = (bldMx 5 (byteC) (obx8 m (kOf f)).data s1 ++ (bldMx 119 (entC) (obx8 m (kOf f)).ents s2 ++ bldMx 35 (idC) (obx8 m (kOf f)).pars s3))) := by
 refine fn_enter (args := [_, _]) func33 rfl ntmps33 rfl hH (sq (pl (TE_boxC (idV f).cells rfl rfl rfl trivial rfl fun b3 hb3 => (TE_allocC (objV (⟨0, [], [], (fun _ => 0), [], (⟨0, (fun _ => 0)⟩ : Lnk), ⟨#[]⟩⟩ : Ob) (.slice none 0 0) (.slice none 0 0) (.slice none 0 0)).cells rfl zeroValue62 rfl trivial rfl fun b4 hb4 => (qa rfl (n0 (sq (pl (qm rfl ?_)))))))))
 refine ql rfl (RD.loadA (i := 1) isAgg35 sizeOf35 rfl rfl (Nat.le_of_ble_eq_true rfl) (id_all _)) (cG rfl call31 (fun w hw => c_stGet s mb m f w hst hof hw.s) ?_)
 rintro v5 H6 ⟨st1, hbo2, rfl, rfl⟩ hX3
 have hRD4 := hbo2.rdx (u := 5) byteC_len
 refine tsp ((b4, .cells (objV (⟨0, [], [], (fun _ => 0), [], (⟨0, (fun _ => 0)⟩ : Lnk), ⟨#[]⟩⟩ : Ob) (.slice none 0 0) (.slice none 0 0) (.slice none 0 0)).cells 62 (0, 0)) :: (b3, .cells (idV f).cells 35 (0, 0)) :: (s, .cells #[.int .i64 m.q, .int .i64 m.sz, .map (some mb)] 69 (0, 0)) :: (mb, mapO keyV en8V m.l m.c) :: (bldMx 5 (byteC) ((get8 m (kOf f)).raw.data.toList) st1)) (qm rfl (qe rfl (qe rfl (qa rfl (qa rfl (n0 (sq (sq (pl ?_)))))))))
 refine qm rfl (qq rfl (RD.not rfl) (n0 (pn_cond rfl (fun hc7 => ?_) (fun hc7 => ?_))))
 ·simp only [Bool.not_eq_true'] at hc7
  refine sq (pl (qq rfl (RD.build (v := objV (⟨0, [], [], (fun _ => 0), [], (⟨0, (fun _ => 0)⟩ : Lnk), ⟨#[]⟩⟩ : Ob) (.slice none 0 0) (.slice none 0 0) (.slice none 0 0)) rfl (fun w => by kernel_rfl)) (TE_putCW 0 _ _ ((b4, .cells (objV (⟨0, [], [], (fun _ => 0), [], (⟨0, (fun _ => 0)⟩ : Lnk), ⟨#[]⟩⟩ : Ob) (.slice none 0 0) (.slice none 0 0) (.slice none 0 0)).cells 62 (0, 0)) :: (b3, .cells (idV f).cells 35 (0, 0)) :: (s, .cells #[.int .i64 m.q, .int .i64 m.sz, .map (some mb)] 69 (0, 0)) :: (mb, mapO keyV en8V m.l m.c) :: (bldMx 5 byteC ((get8 m (kOf f)).raw.data.toList) st1)) rfl sizeOf62 trivial rfl rfl rfl (objV_one _ _ _ _ rfl rfl rfl) rfl rfl rfl rfl (.inl hb4) (qa rfl (n0 (rt ?_))))))
  have hpx := obx_F hc7; have hpe := okx_F hc7
  exact pn_doneF rfl ⟨objV (⟨0, [], [], (fun _ => 0), [], (⟨0, (fun _ => 0)⟩ : Lnk), ⟨#[]⟩⟩ : Ob) (.slice none 0 0) (.slice none 0 0) (.slice none 0 0), _, b4, 0, rfl, rfl, load_agg (i := 0) isAgg62 sizeOf62 rfl (Nat.le_of_ble_eq_true rfl) (obj_all _ _ _ _), ⟨_, _, rfl, rfl, rfl⟩⟩ ⟨none, none, none, (by rw [hpx]; exact zob_ok), (by rw [hpx]; exact (show BldOk 1 byteC [] none from BldOk.nil)), (by rw [hpx]; exact (show BldOk 34 entC [] none from BldOk.nil)), (by rw [hpx]; exact (show BldOk 32 idC [] none from BldOk.nil)), (by rw [hpx, ← hpe] <;> rfl), (show ([] : Mem) = _ from by rw [hpx] <;> simp [bldMx])⟩ (fun _ h => h.sp (fun _ => Nat.zero_le _)) (fun _ he => nomatch he)
 ·simp only [Bool.not_eq_false'] at hc7
  refine sk (sq (pl (qm rfl (cG rfl call65 (fun w hw => c_parseU (bldVx ((get8 m (kOf f)).raw.data.toList) st1) ((get8 m (kOf f)).raw.data.toList) (bldMx 5 byteC ((get8 m (kOf f)).raw.data.toList) st1) w ((Rdb.of_x hRD4).mono sb) (by have h9 := get8_r hst (kOf f); have h8 : (get8 m (kOf f)).raw.data.toList.length = (get8 m (kOf f)).raw.size := rfl; omega) hw.s) ?_))))
  rintro v19 H20 ⟨st10, st13, st16, hox8, hbo11, hbo14, hbo17, rfl, rfl⟩ hX9
  have hRD12 := hbo11.rdx (u := 5) byteC_len
  have hRD15 := hbo14.rdx (u := 119) entC_len
  have hRD18 := hbo17.rdx (u := 35) idC_len
  have hk1hox8 := hox8.d
  have hk2hox8 := hox8.e
  have hk3hox8 := hox8.p
  have hk4hox8 := hox8.m
  refine tsp ((b4, .cells (objV (⟨0, [], [], (fun _ => 0), [], (⟨0, (fun _ => 0)⟩ : Lnk), ⟨#[]⟩⟩ : Ob) (.slice none 0 0) (.slice none 0 0) (.slice none 0 0)).cells 62 (0, 0)) :: (b3, .cells (idV f).cells 35 (0, 0)) :: (s, .cells #[.int .i64 m.q, .int .i64 m.sz, .map (some mb)] 69 (0, 0)) :: (mb, mapO keyV en8V m.l m.c) :: ((bldMx 5 (byteC) ((pX ((get8 m (kOf f)).raw.data.toList)).data) st10) ++ ((bldMx 119 (entC) ((pX ((get8 m (kOf f)).raw.data.toList)).ents) st13) ++ ((bldMx 35 (idC) ((pX ((get8 m (kOf f)).raw.data.toList)).pars) st16) ++ (bldMx 5 (byteC) ((get8 m (kOf f)).raw.data.toList) st1))))) (qm rfl (qe rfl (qe rfl (TE_allocC (objV (⟨0, [], [], (fun _ => 0), [], (⟨0, (fun _ => 0)⟩ : Lnk), ⟨#[]⟩⟩ : Ob) (.slice none 0 0) (.slice none 0 0) (.slice none 0 0)).cells rfl zeroValue62 rfl trivial rfl fun b8 hb8 => (TE_putCW 0 _ _ ((b8, .cells (objV (pX ((get8 m (kOf f)).raw.data.toList)) (bldVx ((pX ((get8 m (kOf f)).raw.data.toList)).data) st10) (bldVx ((pX ((get8 m (kOf f)).raw.data.toList)).ents) st13) (bldVx ((pX ((get8 m (kOf f)).raw.data.toList)).pars) st16)).cells 62 (0, 0)) :: (b4, .cells (objV (⟨0, [], [], (fun _ => 0), [], (⟨0, (fun _ => 0)⟩ : Lnk), ⟨#[]⟩⟩ : Ob) (.slice none 0 0) (.slice none 0 0) (.slice none 0 0)).cells 62 (0, 0)) :: (b3, .cells (idV f).cells 35 (0, 0)) :: (s, .cells #[.int .i64 m.q, .int .i64 m.sz, .map (some mb)] 69 (0, 0)) :: (mb, mapO keyV en8V m.l m.c) :: ((bldMx 5 byteC ((pX ((get8 m (kOf f)).raw.data.toList)).data) st10) ++ ((bldMx 119 entC ((pX ((get8 m (kOf f)).raw.data.toList)).ents) st13) ++ ((bldMx 35 idC ((pX ((get8 m (kOf f)).raw.data.toList)).pars) st16) ++ (bldMx 5 byteC ((get8 m (kOf f)).raw.data.toList) st1))))) rfl sizeOf62 trivial rfl rfl rfl (objV_one _ _ _ _ (bvx_one _ _) (bvx_one _ _) (bvx_one _ _)) rfl rfl rfl rfl (.inl hb8) (qa rfl (n0 (sq (pl ?_)))))))))
  refine ql rfl (RD.loadA (i := 0) isAgg62 sizeOf62 rfl rfl (Nat.le_of_ble_eq_true rfl) (obj_all _ _ _ _)) (qm rfl (qq rfl (RD.eql rfl rfl) (TE_putCW 1 _ _ ((b8, .cells (objV (pX ((get8 m (kOf f)).raw.data.toList)) (bldVx ((pX ((get8 m (kOf f)).raw.data.toList)).data) st10) (bldVx ((pX ((get8 m (kOf f)).raw.data.toList)).ents) st13) (bldVx ((pX ((get8 m (kOf f)).raw.data.toList)).pars) st16)).cells 62 (0, 0)) :: (b4, .cells (objV (pX ((get8 m (kOf f)).raw.data.toList)) (bldVx ((pX ((get8 m (kOf f)).raw.data.toList)).data) st10) (bldVx ((pX ((get8 m (kOf f)).raw.data.toList)).ents) st13) (bldVx ((pX ((get8 m (kOf f)).raw.data.toList)).pars) st16)).cells 62 (0, 0)) :: (b3, .cells (idV f).cells 35 (0, 0)) :: (s, .cells #[.int .i64 m.q, .int .i64 m.sz, .map (some mb)] 69 (0, 0)) :: (mb, mapO keyV en8V m.l m.c) :: ((bldMx 5 byteC ((pX ((get8 m (kOf f)).raw.data.toList)).data) st10) ++ ((bldMx 119 entC ((pX ((get8 m (kOf f)).raw.data.toList)).ents) st13) ++ ((bldMx 35 idC ((pX ((get8 m (kOf f)).raw.data.toList)).pars) st16) ++ (bldMx 5 byteC ((get8 m (kOf f)).raw.data.toList) st1))))) rfl sizeOf62 trivial rfl rfl rfl (objV_one _ _ _ _ (bvx_one _ _) (bvx_one _ _) (bvx_one _ _)) rfl rfl rfl rfl (.inl hb4) (qa rfl (n0 (rt ?_))))))
  have hpx := obx_T hc7; have hpe := okx_T hc7
  exact pn_doneF rfl ⟨objV (pX ((get8 m (kOf f)).raw.data.toList)) (bldVx ((pX ((get8 m (kOf f)).raw.data.toList)).data) st10) (bldVx ((pX ((get8 m (kOf f)).raw.data.toList)).ents) st13) (bldVx ((pX ((get8 m (kOf f)).raw.data.toList)).pars) st16), _, b4, 0, rfl, rfl, load_agg (i := 1) isAgg62 sizeOf62 rfl (Nat.le_of_ble_eq_true rfl) (obj_all _ _ _ _), ⟨_, _, rfl, rfl, rfl⟩⟩ ⟨st10, st13, st16, (by rw [hpx]; exact hox8), (by rw [hpx]; exact hbo11), (by rw [hpx]; exact hbo14), (by rw [hpx]; exact hbo17), (by rw [hpx, ← hpe] <;> rfl), (show (((bldMx 5 byteC ((pX ((get8 m (kOf f)).raw.data.toList)).data) st10) ++ ((bldMx 119 entC ((pX ((get8 m (kOf f)).raw.data.toList)).ents) st13) ++ (bldMx 35 idC ((pX ((get8 m (kOf f)).raw.data.toList)).pars) st16))) : Mem) = _ from by rw [hpx] <;> simp [bldMx])⟩ sb (fun e he => Or.symm ((ownA (ownN (oL hX9)) (ownA (ownN (oL (oR hX9))) (ownN (oR (oR hX9))))) e he))
theorem c_stKind (s : Nat) (mb : Nat) (m : St8) (f : (Nat → Int)) (w : World) (hst : StOk m) (hof : IdOk f) (hH : Hp [(s, .cells #[.int .i64 m.q, .int .i64 m.sz, .map (some mb)] 69 (0, 0)), (mb, mapO keyV en8V m.l m.c)] w) : Calls Tryz.prog 34 #[.pointer (some ⟨s, 0, none⟩), idV f] w (Ret w [] fun v H1 => v = .int .i64 ((get8 m (kOf f)).k) ∧ H1 = []) := by
 refine fn_enter (args := [_, _]) func34 rfl ntmps34 rfl hH (sq (pl (TE_boxC (idV f).cells rfl rfl rfl trivial rfl fun b3 hb3 => (qa rfl (n0 (sq (sq (pl (qm rfl ?_)))))))))
 refine cG rfl call77 (fun w hw => c_stNone s mb m w hst hw.s) ?_
 rintro v1 H2 ⟨rfl, rfl⟩ -
 refine n0 (pn_condF rfl (sk (sq (dG [3, 4, 5] [] [(b3, .cells (idV f).cells 35 (0, 0)), (s, .cells #[.int .i64 m.q, .int .i64 m.sz, .map (some mb)] 69 (0, 0)), (mb, mapO keyV en8V m.l m.c)] (qm rfl (qn rfl (qq rfl (RD.fieldAddr (o := 2) runUnderlying69 rfl rfl sizeOf67 rfl) (qq rfl (RD.load (i := 1) isAgg67 rfl rfl rfl) (qq rfl (RD.loadA (i := 0) isAgg35 sizeOf35 rfl rfl (Nat.le_of_ble_eq_true rfl) (id_all _)) ?_)))))))))
 exact qq rfl (RD.as (v := en8V (get8 m (kOf f))) (RD.lookupM (i := 2) (ev := en8V) (l := m.l) (a := (kOf f)) underlying67 keyId zeroValue137 rfl (congrArg some (keyV_kOf hof).symm) rfl) (by rw [lk8] <;> rfl)) (qq rfl (RD.fieldC (v := .int .i64 ((get8 m (kOf f)).k)) runUnderlying137 rfl isAgg3 rfl rfl) (qa rfl (TE_nil (rt (pn_doneS [] rfl rfl ⟨rfl, rfl⟩ (fun _ => Nat.zero_le _) (fun _ he => nomatch he))))))
end Go.Proofs.YtcmnmigcalibdaaGreatDoor

namespace Go.Proofs.YtcmnmigcalibdaaGreatDoor
open Go.Proofs.Tryz
open Go Go.Mv
set_option maxRecDepth 8000
theorem c_stNone0  (w : World) (hH : Hp [] w) : Calls Tryz.prog 77 #[.pointer none] w (Ret w [] fun v H1 => v = .bool true ∧ H1 = []) := by
 refine fn_enter (args := [_]) func77 rfl ntmps77 rfl hH (sq (pl (qa rfl (n0 (sq (pl (qm rfl (qq rfl (RD.as (v := .bool true) (RD.ptr_eql_nil runUnderlying28 rfl rfl) rfl) (qm rfl ?_)))))))))
 exact qs rfl (qs rfl (qs rfl (qs rfl (qs rfl (qT rfl (qa rfl (n0 (rt (pn_doneS [] rfl rfl ⟨rfl, rfl⟩ (fun _ => Nat.zero_le _) (fun _ he => nomatch he))))))))))
theorem c_stNoneZ (s : Nat) (w : World) (hH : Hp [(s, .cells #[.int .i64 0, .int .i64 0, .map none] 69 (0, 0))] w) : Calls Tryz.prog 77 #[.pointer (some ⟨s, 0, none⟩)] w (Ret w [] fun v H1 => v = .bool true ∧ H1 = []) := by
 refine fn_enter (args := [_]) func77 rfl ntmps77 rfl hH (sq (pl (qa rfl (n0 (sq (pl (qm rfl (qq rfl (RD.as (v := .bool false) (RD.ptr_eql_nil runUnderlying28 rfl rfl) rfl) (qm rfl ?_)))))))))
 exact qg rfl (TE_gq rfl rfl rfl rfl (RD.nilCheckP rfl) rfl (TE_gq rfl rfl rfl rfl (RD.fieldAddr (o := 2) runUnderlying69 rfl rfl sizeOf67 rfl) rfl (ql rfl (RD.load (i := 0) isAgg67 rfl rfl rfl) (TE_gq rfl rfl rfl rfl (RD.as (v := .bool true) (RD.map_eql_nil underlying67 rfl rfl) rfl) rfl (qF rfl (qa rfl (n0 (rt (pn_doneS [] rfl rfl ⟨rfl, rfl⟩ (fun _ => Nat.zero_le _) (fun _ he => nomatch he))))))))))
theorem c_stPut0 (bv : Value) (b : List UInt8) (HX : Mem) (w : World) (hbb : Rdb HX bv b) (hH : Hp HX w) : Calls Tryz.prog 21 #[.pointer none, bv] w (Ret w [] fun v H1 => v = .tuple #[idV (fun _ => 0), .int .i64 1] ∧ H1 = []) := by
 refine fn_enter (args := [_, _]) func21 rfl ntmps21 rfl hH (sq (pl (TE_allocC (idV (fun _ => 0)).cells rfl zeroValue35 rfl trivial rfl fun b4 hb4 => (qa rfl (n0 (sq (sq (pl (qm rfl ?_)))))))))
 refine cG rfl call77 (fun w hw => c_stNone0  w  hw.s) ?_
 rintro v1 H2 ⟨rfl, rfl⟩ -
 exact n0 (pn_condT rfl (sq (plG [] [(b4, .cells (idV (fun _ => 0)).cells 35 (0, 0))] (qq rfl (RD.build (v := idV (fun _ => 0)) rfl (bd_id0)) (TE_putCW 0 _ _ [(b4, .cells (idV (fun _ => 0)).cells 35 (0, 0))] rfl sizeOf35 trivial rfl rfl rfl rfl rfl rfl rfl rfl (.inl hb4) (qa rfl (n0 (rt (pn_doneF rfl ⟨idV (fun _ => 0), _, b4, 0, rfl, rfl, load_agg (i := 0) isAgg35 sizeOf35 rfl (Nat.le_of_ble_eq_true rfl) (id_all _), ⟨_, _, rfl, rfl, rfl⟩⟩ ⟨rfl, rfl⟩ (fun _ h => h.sp (fun _ => Nat.zero_le _)) (fun _ he => nomatch he))))))))))
theorem c_stGet0 (f : (Nat → Int)) (w : World) (hH : Hp [] w) : Calls Tryz.prog 31 #[.pointer none, idV f] w (Ret w [] fun v H1 => v = .tuple #[.slice none 0 0, .bool false] ∧ H1 = []) := by
 refine fn_enter (args := [_, _]) func31 rfl ntmps31 rfl hH (sq (pl (TE_boxC (idV f).cells rfl rfl rfl trivial rfl fun b3 hb3 => (qa rfl (qa rfl (n0 (sq (sq (pl ?_)))))))))
 refine qm rfl (cG rfl call77 (fun w hw => c_stNone0  w  hw.s) ?_)
 rintro v1 H2 ⟨rfl, rfl⟩ -
 exact n0 (pn_condT rfl (sq (plG [] [] (qa rfl (qa rfl (n0 (rt (pn_doneS [] rfl rfl ⟨rfl, rfl⟩ (fun _ => Nat.zero_le _) (fun _ he => nomatch he)))))))))
theorem c_stGetZ (s : Nat) (f : (Nat → Int)) (w : World) (hH : Hp [(s, .cells #[.int .i64 0, .int .i64 0, .map none] 69 (0, 0))] w) : Calls Tryz.prog 31 #[.pointer (some ⟨s, 0, none⟩), idV f] w (Ret w [] fun v H1 => v = .tuple #[.slice none 0 0, .bool false] ∧ H1 = []) := by
 refine fn_enter (args := [_, _]) func31 rfl ntmps31 rfl hH (sq (pl (TE_boxC (idV f).cells rfl rfl rfl trivial rfl fun b3 hb3 => (qa rfl (qa rfl (n0 (sq (sq (pl ?_)))))))))
 refine qm rfl (cG rfl call77 (fun w hw => c_stNoneZ s w  hw.s) ?_)
 rintro v1 H2 ⟨rfl, rfl⟩ -
 exact n0 (pn_condT rfl (sq (plG [] [] (qa rfl (qa rfl (n0 (rt (pn_doneS [] rfl rfl ⟨rfl, rfl⟩ (fun _ => Nat.zero_le _) (fun _ he => nomatch he)))))))))
theorem c_stIDs0  (w : World) (hH : Hp [] w) : Calls Tryz.prog 24 #[.pointer none] w (Ret w [] fun v H1 => v = .slice none 0 0 ∧ H1 = []) := by
 refine fn_enter (args := [_]) func24 rfl ntmps24 rfl hH (sq (pl (qa rfl (n0 (sq (sq (pl (qm rfl (cG rfl call77 (fun w hw => c_stNone0  w  hw.s) ?_)))))))))
 rintro v1 H2 ⟨rfl, rfl⟩ -
 exact n0 (pn_condT rfl (sq (pl (qa rfl (n0 (rt (pn_doneS [] rfl rfl ⟨rfl, rfl⟩ (fun _ => Nat.zero_le _) (fun _ he => nomatch he))))))))
theorem c_stSize0  (w : World) (hH : Hp [] w) : Calls Tryz.prog 25 #[.pointer none] w (Ret w [] fun v H1 => v = .int .i64 0 ∧ H1 = []) := by
 refine fn_enter (args := [_]) func25 rfl ntmps25 rfl hH (sq (pl (qa rfl (n0 (sq (sq (pl (qm rfl (cG rfl call77 (fun w hw => c_stNone0  w  hw.s) ?_)))))))))
 rintro v1 H2 ⟨rfl, rfl⟩ -
 exact n0 (pn_condT rfl (sq (pl (qa rfl (n0 (rt (pn_doneS [] rfl rfl ⟨rfl, rfl⟩ (fun _ => Nat.zero_le _) (fun _ he => nomatch he))))))))
theorem c_stKind0 (f : (Nat → Int)) (w : World) (hH : Hp [] w) : Calls Tryz.prog 34 #[.pointer none, idV f] w (Ret w [] fun v H1 => v = .int .i64 0 ∧ H1 = []) := by
 refine fn_enter (args := [_, _]) func34 rfl ntmps34 rfl hH (sq (pl (TE_boxC (idV f).cells rfl rfl rfl trivial rfl fun b3 hb3 => (qa rfl (n0 (sq (sq (pl (qm rfl ?_)))))))))
 refine cG rfl call77 (fun w hw => c_stNone0  w  hw.s) ?_
 rintro v1 H2 ⟨rfl, rfl⟩ -
 exact n0 (pn_condT rfl (sq (plG [] [] (qa rfl (n0 (rt (pn_doneS [] rfl rfl ⟨rfl, rfl⟩ (fun _ => Nat.zero_le _) (fun _ he => nomatch he))))))))
theorem c_stCopy0  (w : World) (hH : Hp [] w) : Calls Tryz.prog 36 #[.pointer none] w (Ret w [] fun v H1 => v = .pointer none ∧ H1 = []) := by
 refine fn_enter (args := [_]) func36 rfl ntmps36 rfl hH (sq (pl (qa rfl (n0 (sq (sq (pl (qm rfl (cG rfl call77 (fun w hw => c_stNone0  w  hw.s) ?_)))))))))
 rintro v1 H2 ⟨rfl, rfl⟩ -
 exact n0 (pn_condT rfl (sq (pl (qa rfl (n0 (rt (pn_doneS [] rfl rfl ⟨rfl, rfl⟩ (fun _ => Nat.zero_le _) (fun _ he => nomatch he))))))))
theorem c_stCopyZ (s : Nat) (w : World) (hH : Hp [(s, .cells #[.int .i64 0, .int .i64 0, .map none] 69 (0, 0))] w) : Calls Tryz.prog 36 #[.pointer (some ⟨s, 0, none⟩)] w (Ret w [] fun v H1 => v = .pointer none ∧ H1 = []) := by
 refine fn_enter (args := [_]) func36 rfl ntmps36 rfl hH (sq (pl (qa rfl (n0 (sq (sq (pl (qm rfl (cG rfl call77 (fun w hw => c_stNoneZ s w  hw.s) ?_)))))))))
 rintro v1 H2 ⟨rfl, rfl⟩ -
 exact n0 (pn_condT rfl (sq (plG [] [] (qa rfl (n0 (rt (pn_doneS [] rfl rfl ⟨rfl, rfl⟩ (fun _ => Nat.zero_le _) (fun _ he => nomatch he))))))))
theorem c_stLenZ (s : Nat) (w : World) (hH : Hp [(s, .cells #[.int .i64 0, .int .i64 0, .map none] 69 (0, 0))] w) : Calls Tryz.prog 29 #[.pointer (some ⟨s, 0, none⟩)] w (Ret w [] fun v H1 => v = .int .i64 0 ∧ H1 = []) := by
 refine fn_enter (args := [_]) func29 rfl ntmps29 rfl hH (sq (pl (qa rfl (n0 (sq (sq (pl (qm rfl (cG rfl call77 (fun w hw => c_stNoneZ s w  hw.s) ?_)))))))))
 rintro v1 H2 ⟨rfl, rfl⟩ -
 exact n0 (pn_condT rfl (sq (plG [] [] (qa rfl (n0 (rt (pn_doneS [] rfl rfl ⟨rfl, rfl⟩ (fun _ => Nat.zero_le _) (fun _ he => nomatch he))))))))
theorem c_stLeftZ (s : Nat) (w : World) (hH : Hp [(s, .cells #[.int .i64 0, .int .i64 0, .map none] 69 (0, 0))] w) : Calls Tryz.prog 30 #[.pointer (some ⟨s, 0, none⟩)] w (Ret w [] fun v H1 => v = .int .i64 0 ∧ H1 = []) := by
 refine fn_enter (args := [_]) func30 rfl ntmps30 rfl hH (sq (pl (qa rfl (n0 (sq (sq (pl (qm rfl (cG rfl call77 (fun w hw => c_stNoneZ s w  hw.s) ?_)))))))))
 rintro v1 H2 ⟨rfl, rfl⟩ -
 exact n0 (pn_condT rfl (sq (plG [] [] (qa rfl (n0 (rt (pn_doneS [] rfl rfl ⟨rfl, rfl⟩ (fun _ => Nat.zero_le _) (fun _ he => nomatch he))))))))
theorem c_stPutAllZ (s : Nat) (w : World) (hH : Hp [(s, .cells #[.int .i64 0, .int .i64 0, .map none] 69 (0, 0))] w) : Calls Tryz.prog 22 #[.pointer (some ⟨s, 0, none⟩), .slice none 0 0] w (Ret w [] fun v H1 => v = .tuple #[.int .i64 0, .int .i64 1] ∧ H1 = []) := by
 refine fn_enter (args := [_, _]) func22 rfl ntmps22 rfl hH (sq (pl (qa rfl (qa rfl (n0 (pn_scope (sq (pl (qm rfl ?_)))))))))
 refine cG rfl call36 (fun w hw => c_stCopyZ s w  hw.s) ?_
 rintro v1 H2 ⟨rfl, rfl⟩ -
 refine qa rfl (n0 (sq (sq (pl (qm rfl (qq rfl (RD.as (v := .bool true) (RD.ptr_eql_nil runUnderlying28 rfl rfl) rfl) (n0 (pn_condT rfl (sq ?_)))))))))
 exact plG [] [] (qa rfl (qa rfl (n0 (rt (pn_doneS [] rfl rfl ⟨rfl, rfl⟩ (fun _ => Nat.zero_le _) (fun _ he => nomatch he))))))
theorem c_stObjectZ (s : Nat) (f : (Nat → Int)) (w : World) (hH : Hp [(s, .cells #[.int .i64 0, .int .i64 0, .map none] 69 (0, 0))] w) : Calls Tryz.prog 33 #[.pointer (some ⟨s, 0, none⟩), idV f] w (Ret w [] fun v H1 => v = .tuple #[objV (⟨0, [], [], (fun _ => 0), [], (⟨0, (fun _ => 0)⟩ : Lnk), ⟨#[]⟩⟩ : Ob) (.slice none 0 0) (.slice none 0 0) (.slice none 0 0), .bool false] ∧ H1 = []) := by
 refine fn_enter (args := [_, _]) func33 rfl ntmps33 rfl hH (sq (pl (TE_boxC (idV f).cells rfl rfl rfl trivial rfl fun b3 hb3 => (TE_allocC (objV (⟨0, [], [], (fun _ => 0), [], (⟨0, (fun _ => 0)⟩ : Lnk), ⟨#[]⟩⟩ : Ob) (.slice none 0 0) (.slice none 0 0) (.slice none 0 0)).cells rfl zeroValue62 rfl trivial rfl fun b4 hb4 => (qa rfl (n0 (sq (pl (qm rfl ?_)))))))))
 refine ql rfl (RD.loadA (i := 1) isAgg35 sizeOf35 rfl rfl (Nat.le_of_ble_eq_true rfl) (id_all _)) (cG rfl call31 (fun w hw => c_stGetZ s f w  hw.s) ?_)
 rintro v1 H2 ⟨rfl, rfl⟩ -
 refine qm rfl (qe rfl (qe rfl (qa rfl (qa rfl (n0 (sq (sq (plG [] [(b4, .cells (objV (⟨0, [], [], (fun _ => 0), [], (⟨0, (fun _ => 0)⟩ : Lnk), ⟨#[]⟩⟩ : Ob) (.slice none 0 0) (.slice none 0 0) (.slice none 0 0)).cells 62 (0, 0))] (qm rfl ?_)))))))))
 refine qq rfl (RD.as (v := .bool true) (RD.not rfl) rfl) (n0 (pn_condT rfl (sq (pl (qq rfl (RD.build (v := objV (⟨0, [], [], (fun _ => 0), [], (⟨0, (fun _ => 0)⟩ : Lnk), ⟨#[]⟩⟩ : Ob) (.slice none 0 0) (.slice none 0 0) (.slice none 0 0)) rfl (fun w => by kernel_rfl)) (TE_putCW 0 _ _ [(b4, .cells (objV (⟨0, [], [], (fun _ => 0), [], (⟨0, (fun _ => 0)⟩ : Lnk), ⟨#[]⟩⟩ : Ob) (.slice none 0 0) (.slice none 0 0) (.slice none 0 0)).cells 62 (0, 0))] rfl sizeOf62 trivial rfl rfl rfl (objV_one _ _ _ _ rfl rfl rfl) rfl rfl rfl rfl (.inl hb4) (qa rfl (n0 (rt ?_)))))))))
 exact pn_doneF rfl ⟨objV (⟨0, [], [], (fun _ => 0), [], (⟨0, (fun _ => 0)⟩ : Lnk), ⟨#[]⟩⟩ : Ob) (.slice none 0 0) (.slice none 0 0) (.slice none 0 0), _, b4, 0, rfl, rfl, load_agg (i := 0) isAgg62 sizeOf62 rfl (Nat.le_of_ble_eq_true rfl) (obj_all _ _ _ _), ⟨_, _, rfl, rfl, rfl⟩⟩ ⟨rfl, rfl⟩ (fun _ h => h.sp (fun _ => Nat.zero_le _)) (fun _ he => nomatch he)
theorem BsOk.cons {H : Mem} {x : BSl} {l : List BSl} (h : Rdb H x.v x.b) (t : BsOk H l) : BsOk H (x :: l) := fun y hy => by
  rcases List.mem_cons.1 hy with rfl | hy
  · exact h
  · exact t y hy
theorem BsOk.nil {H : Mem} : BsOk H [] := fun y hy => nomatch hy
def putsB : St8 → List (List UInt8) → Nat → Option (Nat × Int)
  | _, [], _ => none
  | m, b :: bs, i => if (put8 m b).2.2 = 0 then putsB (put8 m b).1 bs (i + 1) else some (i, (put8 m b).2.2)
def putAllB (m : St8) (bs : List (List UInt8)) : St8 × Nat × Int := match putsB m bs 0 with
  | some x => (m, x)
  | none => (puts8 m bs, bs.length, 0)
theorem putsB_find (m : St8) (T : List BSl) : ∀ (n i : Nat), i + n = T.length → putsB (mdl8 m T i) ((T.drop i).map (·.b)) i = ((putXs m T).drop i).find? (fun x => !decide (x.2 = 0))
  | 0, i, h => by
    rw [List.drop_eq_nil_of_le (by omega), List.drop_eq_nil_of_le (by rw [putXs_len]; omega)]; rfl
  | n + 1, i, h => by
    have hi : i < T.length := by omega
    have e1 : T.drop i = gt T i :: T.drop (i + 1) := by
      rw [List.drop_eq_getElem_cons hi, gt_eq (List.getElem?_eq_getElem hi)]
    have e2 : (putXs m T).drop i = putX m T i :: (putXs m T).drop (i + 1) := by
      have h1 : i < (putXs m T).length := by rw [putXs_len]; exact hi
      have h2 := putXs_get (m := m) (T := T) (i := i)
      rw [if_pos hi, List.getElem?_eq_getElem h1] at h2
      rw [List.drop_eq_getElem_cons h1, Option.some.inj h2]
    have ih := putsB_find m T n (i + 1) (by omega)
    rw [e1, e2, List.map_cons, putsB, List.find?_cons, ← mdl8_next hi, ih]
    have e3 : (putX m T i).2 = (put8 (mdl8 m T i) (gt T i).b).2.2 := rfl
    rw [e3]
    by_cases hz : (put8 (mdl8 m T i) (gt T i).b).2.2 = 0
    · simp [hz]
    · simp [hz]; rfl
theorem putAll_B (m : St8) (T : List BSl) : putAll8 m T = putAllB m (T.map (·.b)) := by
  have h := putsB_find m T T.length 0 (by omega)
  rw [List.drop_zero, List.drop_zero] at h
  have e0 : mdl8 m T 0 = m := rfl
  rw [e0] at h
  have e1 : mdl8 m T T.length = puts8 m (T.map (·.b)) := by rw [mdl8, List.take_length]
  unfold putAll8 putAllB
  rw [h, e1, List.length_map]
  cases List.find? (fun x => !decide (x.snd = 0)) (putXs m T) <;> rfl
def snA : List UInt8 := [1, 1, 97]
def snB : List UInt8 := [1, 1, 98]
def snC : List UInt8 := [1, 3, 99, 99, 99]
def sn0 : St8 := ⟨10, 0, [], 0⟩
def sn3 : St8 := puts8 sn0 [snA, snB, snA]
theorem sn_1 {T : List BSl} (h : T.map (·.b) = [snA, snB, snC]) : putAll8 ⟨10, 0, [], 0⟩ T = (sn0, 2, 81) := by rw [putAll_B, h]; kernel_rfl
theorem sn_2 {T : List BSl} (h : T.map (·.b) = [snA, [9], snB]) : putAll8 sn0 T = (sn0, 1, 70) := by rw [putAll_B, h]; kernel_rfl
theorem sn_3 {T : List BSl} (h : T.map (·.b) = [snA, snB, snA]) : putAll8 sn0 T = (sn3, 3, 0) := by rw [putAll_B, h]; kernel_rfl
theorem sn_4 {T : List BSl} (h : T.map (·.b) = []) : putAll8 sn3 T = (sn3, 0, 0) := by rw [putAll_B, h]; kernel_rfl
theorem sn_1a {T : List BSl} {m : St8} (hm : m = sn0) (h : T.map (·.b) = [snA, snB, snC]) : (putAll8 ⟨10, 0, [], 0⟩ T).1 = m := by subst hm; rw [sn_1 h]
theorem sn_1b {T : List BSl} {m : St8} (hm : m = sn0) (h : T.map (·.b) = [snA, snB, snC]) : ((putAll8 ⟨10, 0, [], 0⟩ T).2.1 : Int) = 2 := by subst hm; rw [sn_1 h]; rfl
theorem sn_1c {T : List BSl} {m : St8} (hm : m = sn0) (h : T.map (·.b) = [snA, snB, snC]) : (putAll8 ⟨10, 0, [], 0⟩ T).2.2 = 81 := by subst hm; rw [sn_1 h]
theorem sn_2a {T : List BSl} {m : St8} (hm : m = sn0) (h : T.map (·.b) = [snA, [9], snB]) : (putAll8 m T).1 = m := by subst hm; rw [sn_2 h]
theorem sn_2b {T : List BSl} {m : St8} (hm : m = sn0) (h : T.map (·.b) = [snA, [9], snB]) : ((putAll8 m T).2.1 : Int) = 1 := by subst hm; rw [sn_2 h]; rfl
theorem sn_2c {T : List BSl} {m : St8} (hm : m = sn0) (h : T.map (·.b) = [snA, [9], snB]) : (putAll8 m T).2.2 = 70 := by subst hm; rw [sn_2 h]
theorem sn_3a {T : List BSl} {m m' : St8} (hm : m = sn0) (hm' : m' = sn3) (h : T.map (·.b) = [snA, snB, snA]) : (putAll8 m T).1 = m' := by subst hm; subst hm'; rw [sn_3 h]
theorem sn_3b {T : List BSl} {m m' : St8} (hm : m = sn0) (hm' : m' = sn3) (h : T.map (·.b) = [snA, snB, snA]) : ((putAll8 m T).2.1 : Int) = 3 := by subst hm; subst hm'; rw [sn_3 h]; rfl
theorem sn_3c {T : List BSl} {m m' : St8} (hm : m = sn0) (hm' : m' = sn3) (h : T.map (·.b) = [snA, snB, snA]) : (putAll8 m T).2.2 = 0 := by subst hm; subst hm'; rw [sn_3 h]
theorem sn_4a {T : List BSl} {m : St8} (hm : m = sn3) (h : T.map (·.b) = []) : (putAll8 m T).1 = m := by subst hm; rw [sn_4 h]
theorem sn_4b {T : List BSl} {m : St8} (hm : m = sn3) (h : T.map (·.b) = []) : ((putAll8 m T).2.1 : Int) = 0 := by subst hm; rw [sn_4 h]; rfl
theorem sn_4c {T : List BSl} {m : St8} (hm : m = sn3) (h : T.map (·.b) = []) : (putAll8 m T).2.2 = 0 := by subst hm; rw [sn_4 h]
theorem sn_5 : put8 sn3 [] = (sn3, (fun _ => 0), 70) := put8_0 (by kernel_rfl)
theorem sn_5a {m : St8} (hm : m = sn3) : (put8 m []).1 = m := by subst hm; rw [sn_5]
theorem sn_5b {m : St8} (hm : m = sn3) : (put8 m []).2.1 = (fun _ => 0) := by subst hm; rw [sn_5]
theorem sn_5c {m : St8} (hm : m = sn3) : (put8 m []).2.2 = 70 := by subst hm; rw [sn_5]
theorem sn_len {m : St8} (hm : m = sn3) : (m.l.length : Int) = 2 := by subst hm; kernel_rfl
theorem sn_sz {m : St8} (hm : m = sn3) : m.sz = 6 := by subst hm; kernel_rfl
theorem sn_left {m : St8} (hm : m = sn3) : m.q - m.sz = 4 := by subst hm; kernel_rfl
theorem sn_hasA {m : St8} (hm : m = sn3) : has8 m (kOf (shaF [1, 1, 97])) = true := by subst hm; kernel_rfl
theorem sn_getA {m : St8} (hm : m = sn3) : (get8 m (kOf (shaF [1, 1, 97]))).raw.data.toList = [1, 1, 97] := by subst hm; kernel_rfl
theorem sn_okB {m : St8} (hm : m = sn3) : okx8 m (kOf (shaF [1, 1, 98])) = true := by subst hm; kernel_rfl
theorem sn_dataB {m : St8} (hm : m = sn3) : (obx8 m (kOf (shaF [1, 1, 98]))).data = [98] := by subst hm; kernel_rfl
theorem sn_hasZ {m : St8} (hm : m = sn3) : has8 m (kOf (fun _ => 0)) = false := by subst hm; kernel_rfl
theorem sn_okZ {m : St8} (hm : m = sn3) : okx8 m (kOf (fun _ => 0)) = false := by subst hm; kernel_rfl
theorem sn_kindA {m : St8} (hm : m = sn3) : (get8 m (kOf (shaF [1, 1, 97]))).k = 1 := by subst hm; kernel_rfl
theorem sn_kindZ {m : St8} (hm : m = sn3) : (get8 m (kOf (fun _ => 0))).k = 0 := by subst hm; kernel_rfl
theorem sn_ids : ids8 sn3 = [tipOf (tipL (shaF snA)), tipOf (tipL (shaF snB))] := by
  have h : sn3.l.map (fun e => e.k.1) = [tipL (shaF snA), tipL (shaF snB)] := by kernel_rfl
  have h2 : ids8 sn3 = (sn3.l.map (fun e => e.k.1)).map tipOf := by simp [ids8, idOf8]
  rw [h2, h]; rfl
theorem tip_tipL {f : Nat → Int} (h : IdOk f) (hc : IdCan f) : tipOf (tipL f) = f := funext fun i => by
  by_cases hi : i < 32
  · exact tipOf_tipL h hi
  · rw [hc i (by omega)]
    show (((tipL f).getD i 0).toNat : Int) = 0
    rw [List.getD_eq_getElem?_getD, List.getElem?_eq_none (by rw [tipL_len]; omega)]; rfl
theorem sn_same {m : St8} (hm : m = sn3) {ts ts' : List (Nat → Int)} (h : SetOf (ids8 m) ts) (h' : SetOf [shaF [1, 1, 97], shaF [1, 1, 98]] ts') : idsB ts ts' = true := by
  subst hm
  have h' : SetOf [shaF snA, shaF snB] ts' := h'
  rw [sn_ids, tip_tipL (shaF_ok _) (shaF_can _), tip_tipL (shaF_ok _) (shaF_can _)] at h
  rw [h.uniq h']; exact idsB_self _

theorem sn0_ok : StOk sn0 := st0_ok (by decide)
theorem sn3_ok : StOk sn3 := puts8_ok sn0_ok (by decide) (by intro b hb; simp only [List.mem_cons, List.not_mem_nil, or_false] at hb; rcases hb with rfl | rfl | rfl <;> decide)

end Go.Proofs.YtcmnmigcalibdaaGreatDoor
