import Derived.Test.YtmjmaloapafnlaaGreatDoorGas
namespace Go.Proofs.YtmjmaloapafnlaaGreatDoor
open Tryz
open Go Go.Mv
set_option maxRecDepth 8000
theorem c_twin7 (lv : Value) (l : List UInt8) (HX : Mem) (w : World) (hbl : Rdb HX lv l) (hll : l.length ≤ 1000000) (hH : Hp HX w) : Calls Tryz.prog 75 #[lv] w (Ret w [] fun v H1 => ∃ st, BldOk 1 (byteC) l st ∧ v = bldVx l st ∧ H1 = bldMx 5 (byteC) l st) := by
 refine fn_enter (args := [_]) func75 rfl ntmps75 rfl hH (sq (pl (qa rfl (n0 (sq (pl (qa rfl (n0 (sq ?_)))))))))
 refine pl (qm rfl (qm rfl (TE_appendX (st := none) (l := []) (ys := l) HX byteC_len byteC_one rfl rfl rfl rfl trivial rfl underlying32 elByteR rfl rfl rfl BldOk.nil (Rdx.of_b hbl) sb (by simp; omega) rfl (by intro e he; cases he) ?_)))
 intro st1 hbo2 hX3 _
 have hbo4 : BldOk 1 byteC l st1 := hbo2
 have hX5 : ∀ e ∈ (bldMx 5 byteC l st1), w.heap.size ≤ e.1 ∨ e.1 ∈ [] := hX3
 refine TE_sp ((bldMx 5 byteC l st1) ++ HX) (fun a => Nat.le_refl _) ?_
 have hR7 := hbo4.rdx (u := 5) byteC_len
 exact tsp ((bldMx 5 (byteC) l st1) ++ HX) (qa rfl (n0 (rt (dS (bldMx 5 byteC l st1) rfl rfl ⟨st1, hbo4, rfl, rfl⟩ hX5))))
theorem c_r7Copy (x : Ob) (xd : Value) (xe : Value) (xp : Value) (HX : Mem) (w : World) (hbxd : Rdb HX xd x.data) (hbxe : Rdx 34 (entC) HX xe x.ents) (hbxp : Rdx 32 (idC) HX xp x.pars) (hox : ObOk x) (hH : Hp HX w) : Calls Tryz.prog 27 #[objV x xd xe xp] w (Ret w [] fun v H1 => ∃ s1 s2 s3, BldOk 1 (byteC) x.data s1 ∧ BldOk 34 (entC) x.ents s2 ∧ BldOk 32 (idC) x.pars s3 ∧ v = objV x (bldVx x.data s1) (bldVx x.ents s2) (bldVx x.pars s3) ∧ H1 = (bldMx 5 (byteC) x.data s1 ++ (bldMx 113 (entC) x.ents s2 ++ bldMx 36 (idC) x.pars s3))) := by
 have hw1 := hox.d; have hw2 := hox.e; have hw3 := hox.p; have hw4 := hox.m; have hwe := hox.en
 refine fn_enter (args := [_]) func27 rfl ntmps27 rfl hH (sq (pl (TE_boxC (objV x xd xe xp).cells rfl rfl rfl trivial rfl fun b1 hb1 => (TE_allocC (objV (⟨0, [], [], (fun _ => 0), [], (⟨0, (fun _ => 0)⟩ : Lnk), ⟨#[]⟩⟩ : Ob) (.slice none 0 0) (.slice none 0 0) (.slice none 0 0)).cells rfl zeroValue48 rfl trivial rfl fun b2 hb2 => (n0 (sq (pl (qa rfl (n0 ?_)))))))))
 refine sq (pl (qa rfl (n0 (sq (pl (qq rfl (RD.fieldAddr (o := 1) runUnderlying48 rfl rfl sizeOf32 rfl) (ql rfl (RD.load (i := 1) (v := xd) isAgg32 rfl rfl rfl) (cG rfl call75 (fun w hw => c_twin7 xd x.data HX w hbxd.s (by first | assumption | omega | (simp; done) | (simp; omega)) hw.s) ?_))))))))
 rintro v5 H6 ⟨st1, hbo2, rfl, rfl⟩ hX3
 have hRD4 := hbo2.rdx (u := 5) byteC_len
 refine tsp ((b2, .cells (objV (⟨0, [], [], (fun _ => 0), [], (⟨0, (fun _ => 0)⟩ : Lnk), ⟨#[]⟩⟩ : Ob) (.slice none 0 0) (.slice none 0 0) (.slice none 0 0)).cells 48 (0, 0)) :: (b1, .cells (objV x xd xe xp).cells 48 (0, 0)) :: ((bldMx 5 (byteC) x.data st1) ++ HX)) (qq rfl (RD.fieldAddr (o := 1) runUnderlying48 rfl rfl sizeOf32 rfl) (TE_storeC 1 _ _ ((b2, .cells (objV (⟨0, [], [], (fun _ => 0), [], (⟨0, (fun _ => 0)⟩ : Lnk), ⟨#[]⟩⟩ : Ob) (.slice none 0 0) (.slice none 0 0) (.slice none 0 0)).cells 48 (0, 0)) :: (b1, .cells (objV x (bldVx x.data st1) xe xp).cells 48 (0, 0)) :: ((bldMx 5 byteC x.data st1) ++ HX)) rfl sizeOf32 trivial rfl rfl (bvx_cells _ _) (bvx_one _ _) rfl rfl (put_obj_data _ _ _ _ _ _) rfl (.inl hb1) (n0 (sq (pl (qm rfl (qq rfl (RD.fieldAddr (o := 2) runUnderlying48 rfl rfl sizeOf43 rfl) (ql rfl (RD.load (i := 1) (v := xe) isAgg43 rfl rfl rfl) (TE_appendX (st := none) (l := []) (ys := x.ents) ((b2, .cells (objV (⟨0, [], [], (fun _ => 0), [], (⟨0, (fun _ => 0)⟩ : Lnk), ⟨#[]⟩⟩ : Ob) (.slice none 0 0) (.slice none 0 0) (.slice none 0 0)).cells 48 (0, 0)) :: (b1, .cells (objV x (bldVx x.data st1) xe xp).cells 48 (0, 0)) :: ((bldMx 5 byteC x.data st1) ++ HX)) entC_len entC_one rfl rfl rfl rfl trivial rfl underlying43 el_ent rfl rfl rfl BldOk.nil hbxe sb (by simp; omega) rfl (by intro e he; cases he) ?_)))))))))
 intro st7 hbo8 hX9 _
 have hbo10 : BldOk 34 entC x.ents st7 := hbo8
 have hX11 : ∀ e ∈ (bldMx 113 entC x.ents st7), w.heap.size ≤ e.1 ∨ e.1 ∈ [] := hX9
 refine TE_sp ((bldMx 113 entC x.ents st7) ++ ((b2, .cells (objV (⟨0, [], [], (fun _ => 0), [], (⟨0, (fun _ => 0)⟩ : Lnk), ⟨#[]⟩⟩ : Ob) (.slice none 0 0) (.slice none 0 0) (.slice none 0 0)).cells 48 (0, 0)) :: (b1, .cells (objV x (bldVx x.data st1) xe xp).cells 48 (0, 0)) :: ((bldMx 5 byteC x.data st1) ++ HX))) (fun a => Nat.le_refl _) ?_
 have hR13 := hbo10.rdx (u := 113) entC_len
 refine tsp ((b2, .cells (objV (⟨0, [], [], (fun _ => 0), [], (⟨0, (fun _ => 0)⟩ : Lnk), ⟨#[]⟩⟩ : Ob) (.slice none 0 0) (.slice none 0 0) (.slice none 0 0)).cells 48 (0, 0)) :: (b1, .cells (objV x (bldVx x.data st1) xe xp).cells 48 (0, 0)) :: ((bldMx 113 (entC) x.ents st7) ++ ((bldMx 5 (byteC) x.data st1) ++ HX))) (qq rfl (RD.fieldAddr (o := 2) runUnderlying48 rfl rfl sizeOf43 rfl) (TE_storeC 1 _ _ ((b2, .cells (objV (⟨0, [], [], (fun _ => 0), [], (⟨0, (fun _ => 0)⟩ : Lnk), ⟨#[]⟩⟩ : Ob) (.slice none 0 0) (.slice none 0 0) (.slice none 0 0)).cells 48 (0, 0)) :: (b1, .cells (objV x (bldVx x.data st1) (bldVx x.ents st7) xp).cells 48 (0, 0)) :: ((bldMx 113 entC x.ents st7) ++ ((bldMx 5 byteC x.data st1) ++ HX))) rfl sizeOf43 trivial rfl rfl (bvx_cells _ _) (bvx_one _ _) rfl rfl (put_obj_ents _ _ _ _ _ _) rfl (.inl hb1) (n0 (sq (pl (qm rfl (qq rfl (RD.fieldAddr (o := 35) runUnderlying48 rfl rfl sizeOf44 rfl) (ql rfl (RD.load (i := 1) (v := xp) isAgg44 rfl rfl rfl) (TE_appendX (st := none) (l := []) (ys := x.pars) ((b2, .cells (objV (⟨0, [], [], (fun _ => 0), [], (⟨0, (fun _ => 0)⟩ : Lnk), ⟨#[]⟩⟩ : Ob) (.slice none 0 0) (.slice none 0 0) (.slice none 0 0)).cells 48 (0, 0)) :: (b1, .cells (objV x (bldVx x.data st1) (bldVx x.ents st7) xp).cells 48 (0, 0)) :: ((bldMx 113 entC x.ents st7) ++ ((bldMx 5 byteC x.data st1) ++ HX))) idC_len idC_one rfl rfl rfl rfl trivial rfl underlying44 elId rfl rfl rfl BldOk.nil hbxp sb (by simp; omega) rfl (by intro e he; cases he) ?_)))))))))
 intro st14 hbo15 hX16 _
 have hbo17 : BldOk 32 idC x.pars st14 := hbo15
 have hX18 : ∀ e ∈ (bldMx 36 idC x.pars st14), w.heap.size ≤ e.1 ∨ e.1 ∈ [] := hX16
 refine TE_sp ((bldMx 36 idC x.pars st14) ++ ((b2, .cells (objV (⟨0, [], [], (fun _ => 0), [], (⟨0, (fun _ => 0)⟩ : Lnk), ⟨#[]⟩⟩ : Ob) (.slice none 0 0) (.slice none 0 0) (.slice none 0 0)).cells 48 (0, 0)) :: (b1, .cells (objV x (bldVx x.data st1) (bldVx x.ents st7) xp).cells 48 (0, 0)) :: ((bldMx 113 entC x.ents st7) ++ ((bldMx 5 byteC x.data st1) ++ HX)))) (fun a => Nat.le_refl _) ?_
 have hR20 := hbo17.rdx (u := 36) idC_len
 refine tsp ((b2, .cells (objV (⟨0, [], [], (fun _ => 0), [], (⟨0, (fun _ => 0)⟩ : Lnk), ⟨#[]⟩⟩ : Ob) (.slice none 0 0) (.slice none 0 0) (.slice none 0 0)).cells 48 (0, 0)) :: (b1, .cells (objV x (bldVx x.data st1) (bldVx x.ents st7) xp).cells 48 (0, 0)) :: ((bldMx 36 (idC) x.pars st14) ++ ((bldMx 113 (entC) x.ents st7) ++ ((bldMx 5 (byteC) x.data st1) ++ HX)))) (qq rfl (RD.fieldAddr (o := 35) runUnderlying48 rfl rfl sizeOf44 rfl) (TE_storeC 1 _ _ ((b2, .cells (objV (⟨0, [], [], (fun _ => 0), [], (⟨0, (fun _ => 0)⟩ : Lnk), ⟨#[]⟩⟩ : Ob) (.slice none 0 0) (.slice none 0 0) (.slice none 0 0)).cells 48 (0, 0)) :: (b1, .cells (objV x (bldVx x.data st1) (bldVx x.ents st7) (bldVx x.pars st14)).cells 48 (0, 0)) :: ((bldMx 36 idC x.pars st14) ++ ((bldMx 113 entC x.ents st7) ++ ((bldMx 5 byteC x.data st1) ++ HX)))) rfl sizeOf44 trivial rfl rfl (bvx_cells _ _) (bvx_one _ _) rfl rfl (put_obj_pars _ _ _ _ _ _) rfl (.inl hb1) (n0 (sq (plG [] ((b2, .cells (objV (⟨0, [], [], (fun _ => 0), [], (⟨0, (fun _ => 0)⟩ : Lnk), ⟨#[]⟩⟩ : Ob) (.slice none 0 0) (.slice none 0 0) (.slice none 0 0)).cells 48 (0, 0)) :: (b1, .cells (objV x (bldVx x.data st1) (bldVx x.ents st7) (bldVx x.pars st14)).cells 48 (0, 0)) :: ((bldMx 36 idC x.pars st14) ++ ((bldMx 113 entC x.ents st7) ++ (bldMx 5 byteC x.data st1)))) (ql rfl (RD.loadA (i := 1) isAgg48 sizeOf48 rfl rfl (Nat.le_of_ble_eq_true rfl) (obj_all _ _ _ _)) (TE_putCW 0 _ _ ((b2, .cells (objV x (bldVx x.data st1) (bldVx x.ents st7) (bldVx x.pars st14)).cells 48 (0, 0)) :: (b1, .cells (objV x (bldVx x.data st1) (bldVx x.ents st7) (bldVx x.pars st14)).cells 48 (0, 0)) :: ((bldMx 36 idC x.pars st14) ++ ((bldMx 113 entC x.ents st7) ++ (bldMx 5 byteC x.data st1)))) rfl sizeOf48 trivial rfl rfl rfl (objV_one _ _ _ _ (bvx_one _ _) (bvx_one _ _) (bvx_one _ _)) rfl rfl rfl rfl (.inl hb2) (n0 (rt ?_)))))))))
 exact pn_doneF rfl ⟨objV x (bldVx x.data st1) (bldVx x.ents st7) (bldVx x.pars st14), _, b2, 0, rfl, rfl, load_agg (i := 0) isAgg48 sizeOf48 rfl (Nat.le_of_ble_eq_true rfl) (obj_all _ _ _ _), rfl⟩ ⟨st1, st7, st14, hbo2, hbo10, hbo17, rfl, rfl⟩ sb (fun e he => Or.symm ((ownA (ownN hX3) (ownA hX11 hX18)) e he))
end Go.Proofs.YtmjmaloapafnlaaGreatDoor

namespace Go.Proofs.YtmjmaloapafnlaaGreatDoor
open Tryz
open Go Go.Mv
set_option maxRecDepth 8000
attribute [simp] entsL_len parsL_len
def pf (P : List Lnk) : List (Nat → Int) → List Lnk
  | [] => P
  | p :: l => pf (P ++ [⟨3, p⟩]) l
@[simp] theorem pf_nil (P : List Lnk) : pf P [] = P := rfl
theorem pf_eq : ∀ (P : List Lnk) (l : List (Nat → Int)), pf P l = P ++ parsL l
  | P, [] => by simp
  | P, p :: l => by rw [pf, pf_eq]; simp [parsL]
@[simp] theorem pf_len (P : List Lnk) (l : List (Nat → Int)) : (pf P l).length = P.length + l.length := by rw [pf_eq]; simp
theorem obSame_F {x y : Ob} (h : ¬ x.k = y.k ∨ ¬ (⟨x.data.toArray⟩ : ByteArray) = ⟨y.data.toArray⟩ ∨ ¬ (x.ents.length : Int) = (y.ents.length : Int) ∨ sameN 32 x.t y.t = false ∨ same_lnk x.tg y.tg = false ∨ ¬ x.m = y.m) : false = obSame x y := by
  rw [ba_eq] at h
  rcases h with h | h | h | h | h | h
  · simp [obSame, h]
  · simp [obSame, h]
  · rw [obSame, sameG_len (by omega)]; simp
  · simp [obSame, h]
  · simp [obSame, h]
  · simp [obSame, h]
theorem obSame_F2 {x y : Ob} {i : Nat} (h1 : i < x.ents.length) (h2 : i < y.ents.length) (h : same_ent (gt x.ents i) (gt y.ents i) = false) : false = obSame x y := by
  rw [obSame, sameG_F h1 h2 h]; simp
theorem obSame_T {x y : Ob} (h : x.k = y.k ∧ (⟨x.data.toArray⟩ : ByteArray) = ⟨y.data.toArray⟩ ∧ (x.ents.length : Int) = (y.ents.length : Int) ∧ sameN 32 x.t y.t = true ∧ same_lnk x.tg y.tg = true ∧ x.m = y.m) (he : ∀ j, j < x.ents.length → same_ent (gt x.ents j) (gt y.ents j) = true) : sameIL x.pars y.pars = obSame x y := by
  obtain ⟨h1, h2, h3, h4, h5, h6⟩ := h
  rw [ba_eq] at h2
  rw [obSame, sameG_T (by omega) he]
  simp [h1, h2, h4, h5, h6]

theorem c_r7Same (x : Ob) (xd : Value) (xe : Value) (xp : Value) (y : Ob) (yd : Value) (ye : Value) (yp : Value) (HX : Mem) (w : World) (hbxd : Rdb HX xd x.data) (hbxe : Rdx 34 (entC) HX xe x.ents) (hbxp : Rdx 32 (idC) HX xp x.pars) (hbyd : Rdb HX yd y.data) (hbye : Rdx 34 (entC) HX ye y.ents) (hbyp : Rdx 32 (idC) HX yp y.pars) (hxl : x.ents.length ≤ 1000000 ∧ x.pars.length ≤ 1000000) (hyl : y.ents.length ≤ 1000000 ∧ y.pars.length ≤ 1000000) (hH : Hp HX w) : Calls Tryz.prog 34 #[objV x xd xe xp, objV y yd ye yp] w (Ret w [] fun v H1 => v = .bool (obSame x y) ∧ H1 = []) := by
 have hx1 := hxl.1; have hx2 := hxl.2; have hy1 := hyl.1; have hy2 := hyl.2
 refine fn_enter (args := [_, _]) func34 rfl ntmps34 rfl hH (sq (pl (TE_boxC (objV x xd xe xp).cells rfl rfl rfl trivial rfl fun b2 hb2 => (TE_boxC (objV y yd ye yp).cells rfl rfl rfl trivial rfl fun b3 hb3 => (qa rfl (n0 (sq (sq (pn_plain [17, 20] rfl ?_)))))))))
 refine qq rfl (RD.fieldAddr (o := 0) runUnderlying48 rfl rfl sizeOf3 rfl) (ql rfl (RD.load (i := 1) (v := .int .i64 x.k) isAgg3 rfl rfl rfl) (qq rfl (RD.fieldAddr (o := 0) runUnderlying48 rfl rfl sizeOf3 rfl) (ql rfl (RD.load (i := 0) (v := .int .i64 y.k) isAgg3 rfl rfl rfl) (qq rfl (RD.neq rfl rfl) (qm rfl (TE_join (σ := Unit) (fun _ => [(2, .pointer (some ⟨b2, 0, none⟩)), (3, .pointer (some ⟨b3, 0, none⟩)), (49, .bool ((!decide (x.k = y.k)) || ((!decide ((⟨x.data.toArray⟩ : ByteArray) = (⟨y.data.toArray⟩ : ByteArray))) || ((!decide ((x.ents.length : Int) = (y.ents.length : Int))) || ((!(sameN 32 x.t y.t)) || ((!(same_lnk x.tg y.tg)) || (!decide (x.m = y.m))))))))]) (fun _ => ((b3, .cells (objV y yd ye yp).cells 48 (0, 0)) :: (b2, .cells (objV x xd xe xp).cells 48 (0, 0)) :: HX)) (fun _ => True) ?_ ?_))))))
 ·refine TE_ndec (fun hf1 => ?_) (fun hf1 => ?_)
  ·refine qs rfl (qs rfl (qs rfl (qs rfl (qs rfl (qs rfl (qs rfl (qT rfl (qm rfl (qs rfl ?_)))))))))
   refine qs rfl (qs rfl (qs rfl (qs rfl (qs rfl (qs rfl (qT rfl (qm rfl (qs rfl (qs rfl ?_)))))))))
   refine qs rfl (qs rfl (qs rfl (qT rfl (qm rfl (qs rfl (qs rfl (qs rfl (qs rfl (qs rfl ?_)))))))))
   exact qT rfl (qm rfl (qs rfl (qs rfl (qs rfl (qs rfl (qs rfl (qT rfl (n0 (pn_give () trivial ⟨rfl, rfl, congrArg (fun b => some (Value.bool b)) (by first | (simp [hf1]; done) | (simp only [decide_eq_false hf1]; rfl) | (simp only [decide_eq_false hf1]; simp; done)), trivial⟩ sb)))))))))
  ·refine TE_gq rfl rfl rfl rfl (RD.fieldAddr (o := 1) runUnderlying48 rfl rfl sizeOf32 rfl) rfl (ql rfl (RD.load (i := 1) (v := xd) isAgg32 rfl rfl rfl) (ql rfl (RD.str_of_bytes underlying32 underlying9 underlying5 rfl (BytesIn.s (hbxd).bytes)) (TE_gq rfl rfl rfl rfl (RD.fieldAddr (o := 1) runUnderlying48 rfl rfl sizeOf32 rfl) rfl (ql rfl (RD.load (i := 0) (v := yd) isAgg32 rfl rfl rfl) (ql rfl (RD.str_of_bytes underlying32 underlying9 underlying5 rfl (BytesIn.s (hbyd).bytes)) (TE_gq rfl rfl rfl rfl (RD.neq_string rfl rfl) rfl (qF rfl (qm rfl (TE_ndec (fun hf2 => ?_) (fun hf2 => ?_))))))))))
   ·refine qs rfl (qs rfl (qs rfl (qs rfl (qs rfl (qs rfl (qs rfl (qT rfl (qm rfl (qs rfl ?_)))))))))
    refine qs rfl (qs rfl (qs rfl (qs rfl (qT rfl (qm rfl (qs rfl (qs rfl (qs rfl (qs rfl ?_)))))))))
    refine qs rfl (qT rfl (qm rfl (qs rfl (qs rfl (qs rfl (qs rfl (qs rfl (qT rfl (n0 ?_)))))))))
    exact pn_give () trivial ⟨rfl, rfl, congrArg (fun b => some (Value.bool b)) (by first | (simp [hf1, hf2]; done) | (simp only [decide_eq_true hf1, decide_eq_false hf2]; rfl) | (simp only [decide_eq_true hf1, decide_eq_false hf2]; simp; done)), trivial⟩ sb
   ·refine TE_gq rfl rfl rfl rfl (RD.fieldAddr (o := 2) runUnderlying48 rfl rfl sizeOf43 rfl) rfl (ql rfl (RD.load (i := 1) (v := xe) isAgg43 rfl rfl rfl) (TE_gq rfl rfl rfl rfl (RD.lenX runUnderlying43 rfl hbxe) rfl (TE_gq rfl rfl rfl rfl (RD.fieldAddr (o := 2) runUnderlying48 rfl rfl sizeOf43 rfl) rfl (ql rfl (RD.load (i := 0) (v := ye) isAgg43 rfl rfl rfl) (TE_gq rfl rfl rfl rfl (RD.lenX runUnderlying43 rfl hbye) rfl (TE_gq rfl rfl rfl rfl (RD.neq rfl rfl) rfl (qF rfl (qm rfl (TE_ndec (fun hf3 => ?_) (fun hf3 => ?_))))))))))
    ·refine qs rfl (qs rfl (qs rfl (qs rfl (qs rfl (qT rfl (qm rfl (qs rfl (qs rfl (qs rfl ?_)))))))))
     refine qs rfl (qs rfl (qT rfl (qm rfl (qs rfl (qs rfl (qs rfl (qs rfl (qs rfl (qT rfl ?_)))))))))
     exact n0 (pn_give () trivial ⟨rfl, rfl, congrArg (fun b => some (Value.bool b)) (by first | (simp [hf1, hf2, hf3]; done) | (simp only [decide_eq_true hf1, decide_eq_true hf2, decide_eq_false hf3]; rfl) | (simp only [decide_eq_true hf1, decide_eq_true hf2, decide_eq_false hf3]; simp; done)), trivial⟩ sb)
    ·refine TE_gq rfl rfl rfl rfl (RD.fieldAddr (o := 3) runUnderlying48 rfl rfl sizeOf36 rfl) rfl (ql rfl (RD.loadA (i := 1) (v := idV x.t) isAgg36 sizeOf36 rfl rfl (Nat.le_of_ble_eq_true rfl) (obj_t _ _ _ _)) (TE_gq rfl rfl rfl rfl (RD.fieldAddr (o := 3) runUnderlying48 rfl rfl sizeOf36 rfl) rfl (ql rfl (RD.loadA (i := 0) (v := idV y.t) isAgg36 sizeOf36 rfl rfl (Nat.le_of_ble_eq_true rfl) (obj_t _ _ _ _)) (TE_gq rfl rfl rfl rfl (RD.neq_agg eqGuardType36 (eq_id x.t y.t) rfl rfl) rfl (qF rfl (qm rfl (TE_bool (fun hf4 => ?_) (fun hf4 => ?_))))))))
     ·refine qs rfl (qs rfl (qs rfl (qs rfl (qs rfl (qT rfl (qm rfl (qs rfl (qs rfl (qs rfl ?_)))))))))
      exact qs rfl (qs rfl (qT rfl (n0 (pn_give () trivial ⟨rfl, rfl, congrArg (fun b => some (Value.bool b)) (by first | (simp [hf1, hf2, hf3, hf4]; done) | (simp only [decide_eq_true hf1, decide_eq_true hf2, decide_eq_true hf3, hf4]; rfl) | (simp only [decide_eq_true hf1, decide_eq_true hf2, decide_eq_true hf3, hf4]; simp; done)), trivial⟩ sb))))
     ·refine TE_gq rfl rfl rfl rfl (RD.fieldAddr (o := 36) runUnderlying48 rfl rfl sizeOf46 rfl) rfl (ql rfl (RD.loadA (i := 1) (v := lnkV x.tg) isAgg46 sizeOf46 rfl rfl (Nat.le_of_ble_eq_true rfl) (obj_tg _ _ _ _)) (TE_gq rfl rfl rfl rfl (RD.fieldAddr (o := 36) runUnderlying48 rfl rfl sizeOf46 rfl) rfl (ql rfl (RD.loadA (i := 0) (v := lnkV y.tg) isAgg46 sizeOf46 rfl rfl (Nat.le_of_ble_eq_true rfl) (obj_tg _ _ _ _)) (TE_gq rfl rfl rfl rfl (RD.neq_agg eqGuardType46 (eq_lnk x.tg y.tg) rfl rfl) rfl (qF rfl (qm rfl (TE_bool (fun hf5 => ?_) (fun hf5 => ?_))))))))
      ·exact qs rfl (qs rfl (qs rfl (qs rfl (qs rfl (qT rfl (n0 (pn_give () trivial ⟨rfl, rfl, congrArg (fun b => some (Value.bool b)) (by first | (simp [hf1, hf2, hf3, hf4, hf5]; done) | (simp only [decide_eq_true hf1, decide_eq_true hf2, decide_eq_true hf3, hf4, hf5]; rfl) | (simp only [decide_eq_true hf1, decide_eq_true hf2, decide_eq_true hf3, hf4, hf5]; simp; done)), trivial⟩ sb)))))))
      ·exact TE_gq rfl rfl rfl rfl (RD.fieldAddr (o := 69) runUnderlying48 rfl rfl sizeOf9 rfl) rfl (ql rfl (RD.load (i := 1) (v := .string x.m) isAgg9 rfl rfl rfl) (TE_gq rfl rfl rfl rfl (RD.fieldAddr (o := 69) runUnderlying48 rfl rfl sizeOf9 rfl) rfl (ql rfl (RD.load (i := 0) (v := .string y.m) isAgg9 rfl rfl rfl) (TE_gq rfl rfl rfl rfl (RD.neq_string rfl rfl) rfl (qF rfl (n0 (pn_give () trivial ⟨rfl, rfl, congrArg (fun b => some (Value.bool b)) (by first | (simp [hf1, hf2, hf3, hf4, hf5]; done) | (simp only [decide_eq_true hf1, decide_eq_true hf2, decide_eq_true hf3, hf4, hf5]; rfl) | (simp only [decide_eq_true hf1, decide_eq_true hf2, decide_eq_true hf3, hf4, hf5]; simp; done)), trivial⟩ sb)))))))
 rintro _ -
 refine pn_cond rfl (fun hc6 => ?_) (fun hc6 => ?_)
 ·simp only [Bool.not_eq_true', Bool.or_eq_true, decide_eq_false_iff_not] at hc6
  exact sq (plG [] [] (qa rfl (n0 (rt (pn_doneS [] rfl rfl ⟨(congrArg Value.bool (obSame_F hc6)), rfl⟩ (fun _ => Nat.zero_le _) (fun _ he => nomatch he))))))
 ·simp only [Bool.not_eq_false', Bool.or_eq_false_iff, decide_eq_true_eq] at hc6
  refine sk (sq (sq (pl (qa rfl (n0 (pn_block (lpS (σ := Nat) (fun q => [(2, .pointer (some ⟨b2, 0, none⟩)), (3, .pointer (some ⟨b3, 0, none⟩)), (5, .int .i64 (q : Int))]) (fun q => ((b3, .cells (objV y yd ye yp).cells 48 (0, 0)) :: (b2, .cells (objV x xd xe xp).cells 48 (0, 0)) :: HX)) (fun q => (q ≤ x.ents.length) ∧ (∀ j, j < q → same_ent (gt x.ents j) (gt y.ents j) = true)) (fun q => x.ents.length - q) 0 ⟨(by omega), (fun j hj => absurd hj (Nat.not_lt_zero _))⟩ ⟨rfl, rfl, rfl, trivial⟩ ?_)))))))
  rintro i ⟨hi, hall⟩
  refine sq (sq (pn_plain [3] rfl (qm rfl (qq rfl (RD.fieldAddr (o := 2) runUnderlying48 rfl rfl sizeOf43 rfl) (ql rfl (RD.load (i := 1) (v := xe) isAgg43 rfl rfl rfl) (qq rfl (RD.lenX runUnderlying43 rfl hbxe) (qq rfl (RD.lss rfl rfl) (n0 (pn_condD rfl (fun hc7 => ?_) (fun hc7 => ?_))))))))))
  ·refine sk (sq (pn_block (sq (dG [1, 4, 6, 9] [] ((b3, .cells (objV y yd ye yp).cells 48 (0, 0)) :: (b2, .cells (objV x xd xe xp).cells 48 (0, 0)) :: HX) (qq rfl (RD.fieldAddr (o := 2) runUnderlying48 rfl rfl sizeOf43 rfl) (qq rfl (RD.load (i := 1) (v := xe) isAgg43 rfl rfl rfl) (qm rfl (qq rfl (RD.idxR (i := i) (o := (i * 34 + 0)) runUnderlying43 sizeOf113 rfl hbxe rfl rfl (by omega) (by rfl)) (qq rfl (RD.ldRA (i := i) (j := 0) (vs := (entC (gt x.ents i))) isAgg113 sizeOf113 rfl hbxe (gt_some (by omega)) (by rfl) rfl (fun _ _ hu => by rw [Nat.zero_add]; exact hu) (entC_agg _) sb) ?_)))))))))
   refine qq rfl (RD.fieldAddr (o := 2) runUnderlying48 rfl rfl sizeOf43 rfl) (qq rfl (RD.load (i := 0) (v := ye) isAgg43 rfl rfl rfl) (qm rfl (qq rfl (RD.idxR (i := i) (o := (i * 34 + 0)) runUnderlying43 sizeOf113 rfl hbye rfl rfl (by omega) (by rfl)) (qq rfl (RD.ldRA (i := i) (j := 0) (vs := (entC (gt y.ents i))) isAgg113 sizeOf113 rfl hbye (gt_some (by omega)) (by rfl) rfl (fun _ _ hu => by rw [Nat.zero_add]; exact hu) (entC_agg _) sb) (qq rfl (RD.neq_agg eqGuardType113 (eq_ent (gt x.ents i) (gt y.ents i)) rfl rfl) (TE_nil (pn_cond rfl (fun hc8 => ?_) (fun hc8 => ?_))))))))
   ·simp only [Bool.not_eq_true'] at hc8
    exact sq (plG [] [] (qa rfl (n0 (rt (pn_doneS [] rfl rfl ⟨(congrArg Value.bool (obSame_F2 (i := i) (by omega) (by omega) (by assumption))), rfl⟩ (fun _ => Nat.zero_le _) (fun _ he => nomatch he))))))
   ·simp only [Bool.not_eq_false'] at hc8
    exact sk (plG [] ((b3, .cells (objV y yd ye yp).cells 48 (0, 0)) :: (b2, .cells (objV x xd xe xp).cells 48 (0, 0)) :: HX) (qm rfl (qq rfl (RD.addI rfl rfl (by omega) (by omega)) (qa rfl (n0 (agS (i + 1) ⟨(by omega), (fun j hj => (by rcases Nat.lt_or_ge j i with h | h; exact hall j h; obtain rfl : j = i := (by omega); assumption))⟩ (by omega) ⟨rfl, rfl, rfl, trivial⟩))))))
  ·refine xt (sq (pl (qq rfl (RD.fieldAddr (o := 35) runUnderlying48 rfl rfl sizeOf44 rfl) (ql rfl (RD.load (i := 1) (v := xp) isAgg44 rfl rfl rfl) (qq rfl (RD.fieldAddr (o := 35) runUnderlying48 rfl rfl sizeOf44 rfl) (ql rfl (RD.load (i := 0) (v := yp) isAgg44 rfl rfl rfl) (cG rfl call40 (fun w hw => c_r3Same HX xp yp x.pars y.pars w hbxp.s hbyp.s (by first | assumption | omega | (simp; done) | (simp; omega)) hw.s) ?_)))))))
   rintro v9 H10 ⟨rfl, rfl⟩ -
   exact qa rfl (n0 (rt (pn_doneS [] rfl rfl ⟨(congrArg Value.bool (obSame_T hc6 fun j hj => hall j (by omega))), rfl⟩ (fun _ => Nat.zero_le _) (fun _ he => nomatch he))))
end Go.Proofs.YtmjmaloapafnlaaGreatDoor

namespace Go.Proofs.YtmjmaloapafnlaaGreatDoor
open Go Go.Mv
set_option maxRecDepth 8000
theorem obSame_self (x : Ob) : obSame x x = true := by simp [obSame, sameG_self same_ent_self, sameN_self, sameIL_refl, same_lnk_self]
theorem bvx_len {α : Type} {l l' : List α} (h : l.length = l'.length) (st : SnkS) : bldVx l st = bldVx l' st := by
  rcases st with _ | ⟨b, cap, tl⟩
  · rfl
  · simp only [bldVx, h]
end Go.Proofs.YtmjmaloapafnlaaGreatDoor

namespace Go.Proofs.YtmjmaloapafnlaaGreatDoor
open Go Go.Mv
open Go.ChangeShapes
set_option maxRecDepth 100000
theorem obj_t_at (x : Ob) (d e p : Value) {j : Nat} (hj : j < 32) : (objV x d e p).cells[3 + j]? = some (.int .u8 (x.t j)) := by
  rcases lt32 hj with hj | ⟨k, hk, rfl⟩
  · rcases lt16 hj with rfl | rfl | rfl | rfl | rfl | rfl | rfl | rfl | rfl | rfl | rfl | rfl | rfl | rfl | rfl | rfl <;> rfl
  · rcases lt16 hk with rfl | rfl | rfl | rfl | rfl | rfl | rfl | rfl | rfl | rfl | rfl | rfl | rfl | rfl | rfl | rfl <;> rfl
theorem obj_g_at (x : Ob) (d e p : Value) {j : Nat} (hj : j < 32) : (objV x d e p).cells[37 + j]? = some (.int .u8 (x.tg.id j)) := by
  rcases lt32 hj with hj | ⟨k, hk, rfl⟩
  · rcases lt16 hj with rfl | rfl | rfl | rfl | rfl | rfl | rfl | rfl | rfl | rfl | rfl | rfl | rfl | rfl | rfl | rfl <;> rfl
  · rcases lt16 hk with rfl | rfl | rfl | rfl | rfl | rfl | rfl | rfl | rfl | rfl | rfl | rfl | rfl | rfl | rfl | rfl <;> rfl

theorem id_atC (f : Nat → Int) {j : Nat} (hj : j < 32) : (idC f)[j]? = some (.int .u8 (f j)) := by
  rcases lt32 hj with hj | ⟨k, hk, rfl⟩
  · rcases lt16 hj with rfl | rfl | rfl | rfl | rfl | rfl | rfl | rfl | rfl | rfl | rfl | rfl | rfl | rfl | rfl | rfl <;> rfl
  · rcases lt16 hk with rfl | rfl | rfl | rfl | rfl | rfl | rfl | rfl | rfl | rfl | rfl | rfl | rfl | rfl | rfl | rfl <;> rfl
theorem ent_atC (e : Ent) {j : Nat} (hj : j < 32) : (entC e)[2 + j]? = some (.int .u8 (e.id j)) := by
  rcases lt32 hj with hj | ⟨k, hk, rfl⟩
  · rcases lt16 hj with rfl | rfl | rfl | rfl | rfl | rfl | rfl | rfl | rfl | rfl | rfl | rfl | rfl | rfl | rfl | rfl <;> rfl
  · rcases lt16 hk with rfl | rfl | rfl | rfl | rfl | rfl | rfl | rfl | rfl | rfl | rfl | rfl | rfl | rfl | rfl | rfl <;> rfl
theorem cellsO_id : Tryz.prog.cellsOf 36 = 32 := by kernel_rfl
theorem cellsO_u8 : Tryz.prog.cellsOf 5 = 1 := by kernel_rfl
theorem cellsO_ent : Tryz.prog.cellsOf 113 = 34 := by kernel_rfl
theorem cellsO_lnk : Tryz.prog.cellsOf 46 = 33 := by kernel_rfl
theorem cellsO_obj : Tryz.prog.cellsOf 48 = 70 := by kernel_rfl
section
variable {H : Type} {enc : TypeId × Value → H} {w : World} {base : Nat} {spare : Nat → Bool} {held : Bool} {n : Nat} {cs : List Value} {x : DataW H × List MemPlace}
theorem open_byteT (h : DataW.trod enc Tryz.prog w base spare held n 5 cs = some x) : ∃ c, cs = byteC c ∧ True := by
  obtain ⟨z, rfl, _, hw⟩ := DataW.trod_int Tryz.underlying5 h
  have := has_u8 (wf_has hw)
  exact ⟨toB z, by rw [byteC, ← bcell_toB this.1 (by omega)], trivial⟩
def idOf (cs : List Value) : Nat → Int := fun i => bif Nat.blt i 32 then intAt cs.toArray i else 0
theorem idOf_can (cs : List Value) : IdCan (idOf cs) := fun i hi => by
  have : Nat.blt i 32 = false := by rw [← Bool.not_eq_true]; intro h; have := Nat.blt_eq ▸ h; omega
  simp only [idOf, this, cond_false]
theorem idOf_at {z : Int} {j : Nat} (hj : j < 32) (h : cs[j]? = some (.int .u8 z)) : idOf cs j = z := by
  have : Nat.blt j 32 = true := by simpa using hj
  simp only [idOf, this, cond_true, intAt, List.getElem?_toArray, h]
theorem open_idT (h : DataW.trod enc Tryz.prog w base spare held n 36 cs = some x) : ∃ f, cs = idC f ∧ IdOk f ∧ IdCan f := by
  obtain ⟨hl, ht⟩ := trod_ints Tryz.underlying36 Tryz.underlying5 cellsO_u8 h
  rw [cellsO_id] at hl
  refine ⟨idOf cs, ?_, fun i => ?_, idOf_can cs⟩
  · apply List.ext_getElem?
    intro i
    by_cases hi : i < 32
    · obtain ⟨z, hz, _⟩ := ht i hi
      rw [hz, id_atC _ hi, idOf_at hi hz]
    · rw [List.getElem?_eq_none (by omega), List.getElem?_eq_none (by rw [idC_len]; omega)]
  · by_cases hi : i < 32
    · obtain ⟨z, hz, hh⟩ := ht i hi
      rw [idOf_at hi hz]; exact has_u8 hh
    · rw [idOf_can cs i (by omega)]; omega
theorem open_entT (h : DataW.trod enc Tryz.prog w base spare held n 113 cs = some x) : ∃ e, cs = entC e ∧ IdOk e.id := by
  obtain ⟨hl, hf⟩ := trod_field Tryz.underlying113 h
  rw [cellsO_ent] at hl
  obtain ⟨m0, y0, h0⟩ := hf 0 _ rfl
  obtain ⟨m1, y1, h1⟩ := hf 1 _ rfl
  obtain ⟨m2, y2, h2⟩ := hf 2 _ rfl
  have h0 : DataW.trod enc Tryz.prog w base spare held m0 9 ((cs.drop 0).take (Tryz.prog.cellsOf 9)) = some y0 := h0
  have h1 : DataW.trod enc Tryz.prog w base spare held m1 3 ((cs.drop 1).take (Tryz.prog.cellsOf 3)) = some y1 := h1
  have h2 : DataW.trod enc Tryz.prog w base spare held m2 36 ((cs.drop 2).take (Tryz.prog.cellsOf 36)) = some y2 := h2
  obtain ⟨s, hs, _, _⟩ := DataW.trod_string Tryz.underlying9 h0
  obtain ⟨k, hk, _, _⟩ := DataW.trod_int Tryz.underlying3 h1
  obtain ⟨f, hfe, hok, _⟩ := open_idT h2
  rw [cellsO_id] at hfe
  refine ⟨⟨s, k, f⟩, ?_, hok⟩
  apply List.ext_getElem?
  intro i
  by_cases hi0 : i = 0
  · subst hi0; rw [at0 hs]; rfl
  by_cases hi1 : i = 1
  · subst hi1; rw [at0 hk]; rfl
  by_cases hi : i < 34
  · obtain ⟨j, hj, rfl⟩ : ∃ j, j < 32 ∧ i = 2 + j := ⟨i - 2, by omega, by omega⟩
    rw [ent_atC _ hj, ← id_atC f hj, ← hfe, atj hj]
  · rw [List.getElem?_eq_none (by omega), List.getElem?_eq_none (by rw [entC_len]; omega)]
end
/-- Elements behind a slice that stands in a cell. -/
theorem open_cellL {H : Type} {α : Type} {P : Program} {ec : α → List Value} {sz : Nat} {ok : α → Prop} {t e : TypeId} {enc : TypeId × Value → H} {W : World} {r : Reach} {b0 m : Nat} {v : Value} {y : DataW H × List MemPlace} (ht : P.underlying t = some (.slice e)) (hsz : P.cellsOf e = sz) (hs0 : 0 < sz) (hk : ∀ x, (ec x).length = sz)
    (hel : ∀ n cs x, DataW.trod enc P W 0 (fun _ => true) true n e cs = some x → ∃ a, cs = ec a ∧ ok a) (hc : Cell.okWide P W r b0 t v) (h : DataW.trod enc P W 0 (fun _ => true) true m t [v] = some y) (HZ : Mem) (hH : Hp HZ W) :
    ∃ HA l, Hp (HA ++ HZ) W ∧ Rdx sz ec (HA ++ HZ) v l ∧ (∀ x ∈ l, ok x) ∧ l.length ≤ 9223372036854775807 := by
  have hv : v.cells.toList = [v] := by
    rcases DataW.trod_slice ht h with ⟨hcs, _⟩ | ⟨a, len, cap, elems, rest, m', _, hcs, _⟩
    · obtain rfl := (List.cons.inj hcs).1; rfl
    · obtain rfl := (List.cons.inj hcs).1; rfl
  exact open_list (d := y.1) (p := y.2) ht hsz hs0 hk hel (by simp only [Value.okWide, ht]; exact hc) ⟨m, by rw [hv]; exact h⟩ HZ hH
def obTs : List TypeId := [3, 32, 43] ++ List.replicate 32 5 ++ [44, 3] ++ List.replicate 32 5 ++ [9]
theorem obTs_is : Tryz.prog.cellTypes Tryz.prog.depth 48 = some obTs := by kernel_rfl
theorem take1 {l : List Value} {o n : Nat} {v : Value} (hn : n = 1) (h : l[o]? = some v) : (l.drop o).take n = [v] := by
  subst hn
  obtain ⟨hlt, rfl⟩ := List.getElem?_eq_some_iff.1 h
  rw [List.drop_eq_getElem_cons hlt]; rfl
theorem cellsO_b : Tryz.prog.cellsOf 32 = 1 := by kernel_rfl
theorem cellsO_e : Tryz.prog.cellsOf 43 = 1 := by kernel_rfl
theorem cellsO_i : Tryz.prog.cellsOf 44 = 1 := by kernel_rfl
/-- An object that comes in. -/
theorem open_ob {H : Type} {enc : TypeId × Value → H} {W : World} {r : Reach} {b0 : Nat} {v : Value} {d : DataW H} {p : List MemPlace} (hval : Value.okWide Tryz.prog W r b0 48 v) (h : DataW.Trod enc Tryz.prog W 0 (fun _ => true) true 48 v d p) (HZ : Mem) (hH : Hp HZ W) :
    ∃ HA x xd xe xp, v = objV x xd xe xp ∧ Hp (HA ++ HZ) W ∧ Rdb (HA ++ HZ) xd x.data ∧ Rdx 34 entC (HA ++ HZ) xe x.ents ∧ Rdx 32 idC (HA ++ HZ) xp x.pars ∧ ObW x := by
  simp only [Value.okWide, Tryz.underlying48] at hval
  obtain ⟨cs, rfl, hsz, ts, hts, _, hc⟩ := hval
  rw [cellsO_obj] at hsz
  obtain rfl := Option.some.inj (hts.symm.trans obTs_is)
  have hl : obTs.length = 70 := rfl
  rw [hl] at hc
  have cell : ∀ i (hi : i < 70), ∃ v u, cs[i]? = some v ∧ obTs[i]? = some u ∧ Cell.okWide Tryz.prog W r b0 u v := fun i hi => by
    obtain ⟨u, hu, hk⟩ := hc i (cs[i]'(by omega)) (by simp [hsz, hi])
    rw [Nat.mod_eq_of_lt hi] at hu
    exact ⟨_, u, by simp [hsz, hi], hu, hk⟩
  obtain ⟨n, hn⟩ := h
  have hn : DataW.trod enc Tryz.prog W 0 (fun _ => true) true n 48 cs.toList = some (d, p) := hn
  obtain ⟨_, hf⟩ := trod_field Tryz.underlying48 hn
  obtain ⟨m0, y0, h0⟩ := hf 0 _ rfl
  obtain ⟨m1, y1, h1⟩ := hf 1 _ rfl
  obtain ⟨m2, y2, h2⟩ := hf 2 _ rfl
  obtain ⟨m3, y3, h3⟩ := hf 3 _ rfl
  obtain ⟨m4, y4, h4⟩ := hf 4 _ rfl
  obtain ⟨m5, y5, h5⟩ := hf 5 _ rfl
  obtain ⟨m6, y6, h6⟩ := hf 6 _ rfl
  have h0 : DataW.trod enc Tryz.prog W 0 (fun _ => true) true m0 3 ((cs.toList.drop 0).take (Tryz.prog.cellsOf 3)) = some y0 := h0
  have h1 : DataW.trod enc Tryz.prog W 0 (fun _ => true) true m1 32 ((cs.toList.drop 1).take (Tryz.prog.cellsOf 32)) = some y1 := h1
  have h2 : DataW.trod enc Tryz.prog W 0 (fun _ => true) true m2 43 ((cs.toList.drop 2).take (Tryz.prog.cellsOf 43)) = some y2 := h2
  have h3 : DataW.trod enc Tryz.prog W 0 (fun _ => true) true m3 36 ((cs.toList.drop 3).take (Tryz.prog.cellsOf 36)) = some y3 := h3
  have h4 : DataW.trod enc Tryz.prog W 0 (fun _ => true) true m4 44 ((cs.toList.drop 35).take (Tryz.prog.cellsOf 44)) = some y4 := h4
  have h5 : DataW.trod enc Tryz.prog W 0 (fun _ => true) true m5 46 ((cs.toList.drop 36).take (Tryz.prog.cellsOf 46)) = some y5 := h5
  have h6 : DataW.trod enc Tryz.prog W 0 (fun _ => true) true m6 9 ((cs.toList.drop 69).take (Tryz.prog.cellsOf 9)) = some y6 := h6
  obtain ⟨k, hk, _, _⟩ := DataW.trod_int Tryz.underlying3 h0
  obtain ⟨t, ht, htok, _⟩ := open_idT h3
  obtain ⟨s, hs, _, _⟩ := DataW.trod_string Tryz.underlying9 h6
  obtain ⟨_, hg⟩ := trod_field Tryz.underlying46 h5
  obtain ⟨g0, z0, hg0⟩ := hg 0 _ rfl
  obtain ⟨g1, z1, hg1⟩ := hg 1 _ rfl
  have hg0 : DataW.trod enc Tryz.prog W 0 (fun _ => true) true g0 3 ((((cs.toList.drop 36).take (Tryz.prog.cellsOf 46)).drop 0).take (Tryz.prog.cellsOf 3)) = some z0 := hg0
  have hg1 : DataW.trod enc Tryz.prog W 0 (fun _ => true) true g1 36 ((((cs.toList.drop 36).take (Tryz.prog.cellsOf 46)).drop 1).take (Tryz.prog.cellsOf 36)) = some z1 := hg1
  obtain ⟨gk, hgk, _, _⟩ := DataW.trod_int Tryz.underlying3 hg0
  obtain ⟨gi, hgi, hgok, _⟩ := open_idT hg1
  obtain ⟨v1, u1, c1, e1, o1⟩ := cell 1 (by decide)
  obtain ⟨v2, u2, c2, e2, o2⟩ := cell 2 (by decide)
  obtain ⟨v3, u3, c3, e3, o3⟩ := cell 35 (by decide)
  obtain rfl := Option.some.inj e1
  obtain rfl := Option.some.inj e2
  obtain rfl := Option.some.inj e3
  have c1' : cs.toList[1]? = some v1 := by simpa using c1
  have c2' : cs.toList[2]? = some v2 := by simpa using c2
  have c3' : cs.toList[35]? = some v3 := by simpa using c3
  rw [take1 cellsO_b c1'] at h1
  rw [take1 cellsO_e c2'] at h2
  rw [take1 cellsO_i c3'] at h4
  obtain ⟨HA, l1, hH1, r1, _, n1⟩ := open_cellL Tryz.underlying32 cellsO_u8 (by decide) byteC_len (ok := fun _ => True) (fun n cs x h => open_byteT h) o1 h1 HZ hH
  obtain ⟨HB, l2, hH2, r2, k2, n2⟩ := open_cellL Tryz.underlying43 cellsO_ent (by decide) entC_len (ok := fun e => IdOk e.id) (fun n cs x h => open_entT h) o2 h2 _ hH1
  obtain ⟨HC, l3, hH3, r3, k3, n3⟩ := open_cellL Tryz.underlying44 cellsO_id (by decide) idC_len (ok := fun f => IdOk f ∧ IdCan f) (fun n cs x h => open_idT h) o3 h4 _ hH2
  rw [cellsO_id] at ht hgi
  have a0 := at0 hk
  have a6 := at0 hs
  have ag := at0 hgk
  rw [cellsO_lnk] at ag hgi
  rw [atj (by decide)] at ag
  have key : cs = (objV ⟨k, l1, l2, t, l3, ⟨gk, gi⟩, s⟩ v1 v2 v3).cells := by
    apply Array.ext_getElem?
    intro i
    rw [← Array.getElem?_toList]
    by_cases i0 : i = 0
    · subst i0; rw [a0]; rfl
    by_cases i1 : i = 1
    · subst i1; rw [c1']; rfl
    by_cases i2 : i = 2
    · subst i2; rw [c2']; rfl
    by_cases i3 : i < 35
    · obtain ⟨j, hj, rfl⟩ : ∃ j, j < 32 ∧ i = 3 + j := ⟨i - 3, by omega, by omega⟩
      rw [obj_t_at _ _ _ _ hj, ← id_atC t hj, ← ht, atj hj]
    by_cases i4 : i = 35
    · subst i4; rw [c3']; rfl
    by_cases i5 : i = 36
    · subst i5; rw [ag]; rfl
    by_cases i6 : i < 69
    · obtain ⟨j, hj, rfl⟩ : ∃ j, j < 32 ∧ i = 37 + j := ⟨i - 37, by omega, by omega⟩
      rw [obj_g_at _ _ _ _ hj, ← id_atC gi hj, ← hgi, atj hj, atj (by omega), show 36 + (1 + j) = 37 + j by omega]
    by_cases i7 : i = 69
    · subst i7; rw [a6]; rfl
    · have e1 : (objV ⟨k, l1, l2, t, l3, ⟨gk, gi⟩, s⟩ v1 v2 v3).cells.size = 70 := rfl
      rw [List.getElem?_eq_none (by rw [Array.length_toList]; omega), Array.getElem?_eq_none (by omega)]
  refine ⟨HC ++ (HB ++ HA), ⟨k, l1, l2, t, l3, ⟨gk, gi⟩, s⟩, v1, v2, v3, by rw [key]; rfl, by rw [List.append_assoc, List.append_assoc]; exact hH3, Rdb.of_x (r1.mono fun _ hw => hw.sp (fun a => by simp only [cnt_append]; omega)), r2.mono fun _ hw => hw.sp (fun a => by simp only [cnt_append]; omega), r3.mono fun _ hw => hw.sp (fun a => by simp only [cnt_append]; omega), n1, n2, n3, k2, htok, hgok, fun f hf => (k3 f hf).1, fun f hf => (k3 f hf).2⟩

end Go.Proofs.YtmjmaloapafnlaaGreatDoor
