import Derived.Test.YtloljpefdecmhaaGreatDoorGbb
namespace Go.Proofs.YtloljpefdecmhaaGreatDoor
open Go Go.Mv
set_option maxRecDepth 8000
theorem back_facts {x y : Ob} (hok : obOkB x = true) (hw : ObOk x) (hp : parseM (obB x) = some y) : obSame y x = true ∧ sameN 32 (idO x) (shaF (obB x)) = true ∧ (obB x).length ≤ 4000 ∧ kindM (obB x) = x.k ∧ err (obOkB x) 70 = 0 := by
  have h := parse_enc hok hw
  rw [hp] at h
  obtain rfl := Option.some.inj h
  refine ⟨alike_iff.2 (can_alike x), ?_, obB_4000 hok, kindM_enc hok hw, by rw [hok]; rfl⟩
  rw [idO, if_pos hok]; exact sameN_self _ _
theorem dead_none {x : Ob} {α : Prop} (hok : obOkB x = true) (hw : ObOk x) (hp : parseM (obB x) = none) : α := by
  rw [parse_enc hok hw] at hp; cases hp
theorem dead_bad {b : List UInt8} {x : Ob} {α : Prop} (hp : parseM b = some x) (h : obOkB x = false) : α := by
  rw [(parse_back hp).2] at h; cases h

theorem c_ObjectBack (x : Ob) (xd : Value) (xe : Value) (xp : Value) (bv : Value) (b : List UInt8) (HX : Mem) (w : World) (hbxd : Rdb ((0, .cells (wfV 8 (s8f shaB)).cells 107 (0, 0)) :: (1, .cells (wfV 64 (gtf shaK)).cells 217 (0, 0)) :: HX) xd x.data) (hbxe : Rdx 34 (entC) ((0, .cells (wfV 8 (s8f shaB)).cells 107 (0, 0)) :: (1, .cells (wfV 64 (gtf shaK)).cells 217 (0, 0)) :: HX) xe x.ents) (hbxp : Rdx 32 (idC) ((0, .cells (wfV 8 (s8f shaB)).cells 107 (0, 0)) :: (1, .cells (wfV 64 (gtf shaK)).cells 217 (0, 0)) :: HX) xp x.pars) (hox : ObW x) (hbb : Rdb ((0, .cells (wfV 8 (s8f shaB)).cells 107 (0, 0)) :: (1, .cells (wfV 64 (gtf shaK)).cells 217 (0, 0)) :: HX) bv b) (hH : Hp ((0, .cells (wfV 8 (s8f shaB)).cells 107 (0, 0)) :: (1, .cells (wfV 64 (gtf shaK)).cells 217 (0, 0)) :: HX) w) : Calls Tryz.prog 5 #[objV x xd xe xp, bv] w (Ret w [] fun v H1 => v = .bool true ∧ H1 = []) := by
  refine fn_enter (args := [_, _]) Tryz.func5 rfl Tryz.ntmps5 rfl hH ?_
  refine pn_seq ?_
  refine pn_plain [] rfl ?_
  refine TE_boxC (objV x xd xe xp).cells rfl rfl rfl trivial rfl fun b2 hb2 => ?_
  refine TE_q rfl rfl (RD.assign rfl) rfl ?_
  refine TE_nil0 ?_
  refine pn_seq ?_
  refine pn_plain [] rfl ?_
  refine TE_callG _ [] rfl rfl trivial Tryz.call35 rfl rfl rfl (fun w hw => c_alive7  w  (hw.sp (fun a => by simp -failIfUnchanged <;> omega))) (fun a => by simp -failIfUnchanged <;> omega) ?_
  rintro v1 H2 ⟨rfl, rfl⟩ -
  refine TE_q rfl rfl (RD.assign rfl) rfl ?_
  refine TE_nil0 ?_
  refine pn_seq ?_
  refine pn_seq ?_
  refine pn_plain [5] rfl ?_
  refine TE_l rfl rfl trivial rfl (RD.loadA (i := 0) Tryz.isAgg48 Tryz.sizeOf48 rfl rfl (Nat.le_of_ble_eq_true rfl) (obj_all _ _ _ _)) rfl ?_
  refine TE_callG _ ((0, .cells (wfV 8 (s8f shaB)).cells 107 (0, 0)) :: (1, .cells (wfV 64 (gtf shaK)).cells 217 (0, 0)) :: HX) rfl rfl trivial Tryz.call24 rfl rfl rfl (fun w hw => c_great x xd xe xp ((0, .cells (wfV 8 (s8f shaB)).cells 107 (0, 0)) :: (1, .cells (wfV 64 (gtf shaK)).cells 217 (0, 0)) :: HX) w (hbxd.mono (fun _ hw => hw.sp (fun a => by simp -failIfUnchanged <;> omega))) (hbxe.mono (fun _ hw => hw.sp (fun a => by simp -failIfUnchanged <;> omega))) (hbxp.mono (fun _ hw => hw.sp (fun a => by simp -failIfUnchanged <;> omega))) hox (hw.sp (fun a => by simp -failIfUnchanged <;> omega))) (fun a => by simp -failIfUnchanged <;> omega) ?_
  rintro v3 H4 ⟨rfl, rfl⟩ -
  refine TE_q rfl rfl (RD.gtr rfl rfl) rfl ?_
  refine TE_q rfl rfl (RD.move rfl) rfl ?_
  refine TE_join (σ := Unit) (fun _ => [(1, bv), (2, .pointer (some ⟨b2, 0, none⟩)), (5, .bool true), (28, .bool ((decide (0 < (greatI x))) || (decide (5000 < (b.length : Int)))))]) (fun _ => ((b2, .cells (objV x xd xe xp).cells 48 (0, 0)) :: (0, .cells (wfV 8 (s8f shaB)).cells 107 (0, 0)) :: (1, .cells (wfV 64 (gtf shaK)).cells 217 (0, 0)) :: HX)) (fun _ => True) ?_ ?_
  · refine TE_dec (fun hf5 => ?_) (fun hf5 => ?_)
    · refine TE_s rfl rfl rfl rfl rfl ?_
      refine TE_s rfl rfl rfl rfl rfl ?_
      refine TE_s rfl rfl rfl rfl rfl ?_
      refine TE_q rfl rfl (RD.pickT rfl rfl) rfl ?_
      refine TE_q rfl rfl (RD.move rfl) rfl ?_
      refine TE_s rfl rfl rfl rfl rfl ?_
      refine TE_s rfl rfl rfl rfl rfl ?_
      refine TE_q rfl rfl (RD.pickT rfl rfl) rfl ?_
      refine TE_nil0 ?_
      exact pn_give () trivial ⟨rfl, rfl, rfl, congrArg (fun b => some (Value.bool b)) (by first | (simp [hf5]; done) | (simp only [decide_eq_true hf5]; rfl) | (simp only [decide_eq_true hf5]; simp; done)), trivial⟩ (fun _ hw => hw.sp (fun a => by simp -failIfUnchanged <;> omega))
    · refine TE_gq rfl rfl rfl rfl (RD.move rfl) rfl ?_
      refine TE_gq rfl rfl rfl rfl (RD.lenR Tryz.runUnderlying32 rfl hbb) rfl ?_
      refine TE_gq rfl rfl rfl rfl (RD.gtr rfl rfl) rfl ?_
      refine TE_q rfl rfl (RD.pickF rfl rfl) rfl ?_
      refine TE_q rfl rfl (RD.move rfl) rfl ?_
      refine TE_dec (fun hf6 => ?_) (fun hf6 => ?_)
      · refine TE_s rfl rfl rfl rfl rfl ?_
        refine TE_s rfl rfl rfl rfl rfl ?_
        refine TE_q rfl rfl (RD.pickT rfl rfl) rfl ?_
        refine TE_nil0 ?_
        exact pn_give () trivial ⟨rfl, rfl, rfl, congrArg (fun b => some (Value.bool b)) (by first | (simp [hf5, hf6]; done) | (simp only [decide_eq_false hf5, decide_eq_true hf6]; rfl) | (simp only [decide_eq_false hf5, decide_eq_true hf6]; simp; done)), trivial⟩ (fun _ hw => hw.sp (fun a => by simp -failIfUnchanged <;> omega))
      · refine TE_gq rfl rfl rfl rfl (RD.move rfl) rfl ?_
        refine TE_gq rfl rfl rfl rfl (RD.as (v := .bool false) (RD.not rfl) rfl) rfl ?_
        refine TE_q rfl rfl (RD.pickF rfl rfl) rfl ?_
        refine TE_nil0 ?_
        exact pn_give () trivial ⟨rfl, rfl, rfl, congrArg (fun b => some (Value.bool b)) (by first | (simp [hf5, hf6]; done) | (simp only [decide_eq_false hf5, decide_eq_false hf6]; rfl) | (simp only [decide_eq_false hf5, decide_eq_false hf6]; simp; done)), trivial⟩ (fun _ hw => hw.sp (fun a => by simp -failIfUnchanged <;> omega))
  rintro _ -
  refine pn_cond rfl (fun hc7 => ?_) (fun hc7 => ?_)
  · simp only [Bool.or_eq_true, decide_eq_true_eq] at hc7
    refine pn_seq ?_
    refine pn_plainG [] [(0, .cells (wfV 8 (s8f shaB)).cells 107 (0, 0)), (1, .cells (wfV 64 (gtf shaK)).cells 217 (0, 0))] rfl (fun a => by simp -failIfUnchanged <;> omega) ?_
    refine TE_q rfl rfl (RD.move rfl) rfl ?_
    refine TE_q rfl rfl (RD.assign rfl) rfl ?_
    refine TE_nil0 ?_
    refine pn_ret ?_
    exact pn_doneS [] rfl rfl ⟨rfl, rfl⟩ (fun _ => Nat.zero_le _) (fun _ he => nomatch he)
  · simp only [Bool.or_eq_false_iff, decide_eq_false_iff_not] at hc7
    have hkx := great_ok hox hc7.1
    have hx1 := hkx.d; have hx2 := hkx.e; have hx3 := hkx.p; have hx4 := hkx.m
    have hbl5 := hc7.2
    refine pn_skip ?_
    refine pn_seq ?_
    refine pn_seq ?_
    refine pn_plain [] rfl ?_
    refine TE_l rfl rfl trivial rfl (RD.loadA (i := 0) Tryz.isAgg48 Tryz.sizeOf48 rfl rfl (Nat.le_of_ble_eq_true rfl) (obj_all _ _ _ _)) rfl ?_
    refine TE_callG _ ((0, .cells (wfV 8 (s8f shaB)).cells 107 (0, 0)) :: (1, .cells (wfV 64 (gtf shaK)).cells 217 (0, 0)) :: HX) rfl rfl trivial Tryz.call26 rfl rfl rfl (fun w hw => c_obEncode x xd xe xp ((0, .cells (wfV 8 (s8f shaB)).cells 107 (0, 0)) :: (1, .cells (wfV 64 (gtf shaK)).cells 217 (0, 0)) :: HX) w (hbxd.mono (fun _ hw => hw.sp (fun a => by simp -failIfUnchanged <;> omega))) (hbxe.mono (fun _ hw => hw.sp (fun a => by simp -failIfUnchanged <;> omega))) (hbxp.mono (fun _ hw => hw.sp (fun a => by simp -failIfUnchanged <;> omega))) hkx (hw.sp (fun a => by simp -failIfUnchanged <;> omega))) (fun a => by simp -failIfUnchanged <;> omega) ?_
    rintro v14 H15 (⟨hok8, st9, hbo10, rfl, rfl⟩ | ⟨hok13, rfl, rfl⟩) hX16
    · have hRD12 : Rdx 1 (byteC) (bldMx 5 (byteC) (obB x) st9) (bldVx (obB x) st9) (obB x) := hbo10.rdx (u := 5) byteC_len; refine TE_sp ((b2, .cells (objV x xd xe xp).cells 48 (0, 0)) :: (0, .cells (wfV 8 (s8f shaB)).cells 107 (0, 0)) :: (1, .cells (wfV 64 (gtf shaK)).cells 217 (0, 0)) :: ((bldMx 5 (byteC) (obB x) st9) ++ HX)) (fun a => by simp -failIfUnchanged <;> omega) ?_
      refine TE_q rfl rfl (RD.move rfl) rfl ?_
      refine TE_q rfl rfl (RD.extract rfl rfl) rfl ?_
      refine TE_q rfl rfl (RD.extract rfl rfl) rfl ?_
      refine TE_q rfl rfl (RD.assign rfl) rfl ?_
      refine TE_q rfl rfl (RD.assign rfl) rfl ?_
      refine TE_nil0 ?_
      refine pn_seq ?_
      refine pn_plain [] rfl ?_
      refine TE_q rfl rfl (RD.move rfl) rfl ?_
      refine TE_q rfl rfl (RD.as (v := .bool true) (RD.eql rfl rfl) rfl) rfl ?_
      refine TE_nil0 ?_
      refine pn_condT rfl ?_
      refine pn_seq ?_
      refine pn_plain [] rfl ?_
      refine TE_q rfl rfl (RD.move rfl) rfl ?_
      refine TE_callG _ (bldMx 5 (byteC) (obB x) st9) rfl rfl trivial Tryz.call28 rfl rfl rfl (fun w hw => c_parse (bldVx (obB x) st9) (obB x) (bldMx 5 (byteC) (obB x) st9) w ((Rdb.of_x hRD12).mono (fun _ hw => hw.sp (fun a => by simp -failIfUnchanged <;> omega))) (by have h9 := obB_4000 hok8; omega) (hw.sp (fun a => by simp -failIfUnchanged <;> omega))) (fun a => by simp -failIfUnchanged <;> omega) ?_
      rintro v30 H31 (⟨x17, st21, st24, st27, hpm18, hox19, hbo22, hbo25, hbo28, rfl, rfl⟩ | ⟨hpm18, rfl, rfl⟩) hX32
      · have hRD23 : Rdx 1 (byteC) (bldMx 5 (byteC) x17.data st21) (bldVx x17.data st21) x17.data := hbo22.rdx (u := 5) byteC_len; have hRD26 : Rdx 34 (entC) (bldMx 97 (entC) x17.ents st24) (bldVx x17.ents st24) x17.ents := hbo25.rdx (u := 97) entC_len; have hRD29 : Rdx 32 (idC) (bldMx 36 (idC) x17.pars st27) (bldVx x17.pars st27) x17.pars := hbo28.rdx (u := 36) idC_len; have hk1x17 := hox19.d; have hk2x17 := hox19.e; have hk3x17 := hox19.p; have hk4x17 := hox19.m; refine TE_sp ((b2, .cells (objV x xd xe xp).cells 48 (0, 0)) :: (0, .cells (wfV 8 (s8f shaB)).cells 107 (0, 0)) :: (1, .cells (wfV 64 (gtf shaK)).cells 217 (0, 0)) :: ((bldMx 5 (byteC) x17.data st21) ++ ((bldMx 97 (entC) x17.ents st24) ++ ((bldMx 36 (idC) x17.pars st27) ++ ((bldMx 5 (byteC) (obB x) st9) ++ HX))))) (fun a => by simp -failIfUnchanged <;> omega) ?_
        refine TE_q rfl rfl (RD.move rfl) rfl ?_
        refine TE_q rfl rfl (RD.extract rfl rfl) rfl ?_
        refine TE_q rfl rfl (RD.extract rfl rfl) rfl ?_
        refine TE_allocC (objV (⟨0, [], [], (fun _ => 0), [], (⟨0, (fun _ => 0)⟩ : Lnk), ⟨#[]⟩⟩ : Ob) (.slice none 0 0) (.slice none 0 0) (.slice none 0 0)).cells rfl Tryz.zeroValue48 rfl trivial rfl fun b8 hb8 => ?_
        refine TE_putCW 0 (objV (⟨0, [], [], (fun _ => 0), [], (⟨0, (fun _ => 0)⟩ : Lnk), ⟨#[]⟩⟩ : Ob) (.slice none 0 0) (.slice none 0 0) (.slice none 0 0)).cells (objV x17 (bldVx x17.data st21) (bldVx x17.ents st24) (bldVx x17.pars st27)).cells ((b8, .cells (objV x17 (bldVx x17.data st21) (bldVx x17.ents st24) (bldVx x17.pars st27)).cells 48 (0, 0)) :: (b2, .cells (objV x xd xe xp).cells 48 (0, 0)) :: (0, .cells (wfV 8 (s8f shaB)).cells 107 (0, 0)) :: (1, .cells (wfV 64 (gtf shaK)).cells 217 (0, 0)) :: ((bldMx 5 (byteC) x17.data st21) ++ ((bldMx 97 (entC) x17.ents st24) ++ ((bldMx 36 (idC) x17.pars st27) ++ ((bldMx 5 (byteC) (obB x) st9) ++ HX))))) rfl Tryz.sizeOf48 trivial rfl rfl rfl (objV_one _ _ _ _ (bvx_one _ _) (bvx_one _ _) (bvx_one _ _)) rfl rfl rfl rfl (.inl hb8) ?_
        refine TE_q rfl rfl (RD.assign rfl) rfl ?_
        refine TE_nil0 ?_
        refine pn_seq ?_
        refine pn_plain [] rfl ?_
        refine TE_l rfl rfl trivial rfl (RD.loadA (i := 1) Tryz.isAgg48 Tryz.sizeOf48 rfl rfl (Nat.le_of_ble_eq_true rfl) (obj_all _ _ _ _)) rfl ?_
        refine TE_callG _ ((0, .cells (wfV 8 (s8f shaB)).cells 107 (0, 0)) :: (1, .cells (wfV 64 (gtf shaK)).cells 217 (0, 0)) :: HX) rfl rfl trivial Tryz.call30 rfl rfl rfl (fun w hw => c_obID x xd xe xp HX w (hbxd.mono (fun _ hw => hw.sp (fun a => by simp -failIfUnchanged <;> omega))) (hbxe.mono (fun _ hw => hw.sp (fun a => by simp -failIfUnchanged <;> omega))) (hbxp.mono (fun _ hw => hw.sp (fun a => by simp -failIfUnchanged <;> omega))) hkx (hw.sp (fun a => by simp -failIfUnchanged <;> omega))) (fun a => by simp -failIfUnchanged <;> omega) ?_
        rintro v33 H34 ⟨rfl, rfl⟩ -
        refine TE_q rfl rfl (RD.move rfl) rfl ?_
        refine TE_q rfl rfl (RD.extract rfl rfl) rfl ?_
        refine TE_q rfl rfl (RD.extract rfl rfl) rfl ?_
        refine TE_allocC (idV (fun _ => 0)).cells rfl Tryz.zeroValue36 rfl trivial rfl fun b10 hb10 => ?_
        refine TE_putCW 0 (idV (fun _ => 0)).cells (idV (idO x)).cells ((b10, .cells (idV (idO x)).cells 36 (0, 0)) :: (b8, .cells (objV x17 (bldVx x17.data st21) (bldVx x17.ents st24) (bldVx x17.pars st27)).cells 48 (0, 0)) :: (b2, .cells (objV x xd xe xp).cells 48 (0, 0)) :: (0, .cells (wfV 8 (s8f shaB)).cells 107 (0, 0)) :: (1, .cells (wfV 64 (gtf shaK)).cells 217 (0, 0)) :: ((bldMx 5 (byteC) x17.data st21) ++ ((bldMx 97 (entC) x17.ents st24) ++ ((bldMx 36 (idC) x17.pars st27) ++ ((bldMx 5 (byteC) (obB x) st9) ++ HX))))) rfl Tryz.sizeOf36 trivial rfl rfl rfl rfl rfl rfl rfl rfl (.inl hb10) ?_
        refine TE_q rfl rfl (RD.assign rfl) rfl ?_
        refine TE_nil0 ?_
        refine pn_seq ?_
        refine pn_drawG [7, 8, 13, 21, 28] [] ((b10, .cells (idV (idO x)).cells 36 (0, 0)) :: (b8, .cells (objV x17 (bldVx x17.data st21) (bldVx x17.ents st24) (bldVx x17.pars st27)).cells 48 (0, 0)) :: (b2, .cells (objV x xd xe xp).cells 48 (0, 0)) :: (0, .cells (wfV 8 (s8f shaB)).cells 107 (0, 0)) :: (1, .cells (wfV 64 (gtf shaK)).cells 217 (0, 0)) :: ((bldMx 5 (byteC) x17.data st21) ++ ((bldMx 97 (entC) x17.ents st24) ++ ((bldMx 36 (idC) x17.pars st27) ++ ((bldMx 5 (byteC) (obB x) st9) ++ HX))))) rfl rfl (by kernel_rfl) (fun a => by simp -failIfUnchanged <;> omega) ?_
        refine TE_q rfl rfl (RD.move rfl) rfl ?_
        refine TE_q rfl rfl (RD.as (v := .bool false) (RD.neq rfl rfl) rfl) rfl ?_
        refine TE_q rfl rfl (RD.move rfl) rfl ?_
        refine TE_gq rfl rfl rfl rfl (RD.move rfl) rfl ?_
        refine TE_gq rfl rfl rfl rfl (RD.neq rfl rfl) rfl ?_
        refine TE_q rfl rfl (RD.pickF rfl rfl) rfl ?_
        refine TE_q rfl rfl (RD.move rfl) rfl ?_
        refine TE_join (σ := Unit) (fun _ => [(1, bv), (5, .bool true), (77, .bool ((!decide ((err (obOkB x) 70) = 0)) || ((!(obSame x17 x)) || ((!(sameN 32 (idO x) (shaF (obB x)))) || ((decide (4000 < ((obB x).length : Int))) || (!decide ((kindM (obB x)) = x.k)))))))]) (fun _ => ((b10, .cells (idV (idO x)).cells 36 (0, 0)) :: (b8, .cells (objV x17 (bldVx x17.data st21) (bldVx x17.ents st24) (bldVx x17.pars st27)).cells 48 (0, 0)) :: (b2, .cells (objV x xd xe xp).cells 48 (0, 0)) :: (0, .cells (wfV 8 (s8f shaB)).cells 107 (0, 0)) :: (1, .cells (wfV 64 (gtf shaK)).cells 217 (0, 0)) :: ((bldMx 5 (byteC) x17.data st21) ++ ((bldMx 97 (entC) x17.ents st24) ++ ((bldMx 36 (idC) x17.pars st27) ++ ((bldMx 5 (byteC) (obB x) st9) ++ HX)))))) (fun _ => True) ?_ ?_
        · refine TE_ndec (fun hf35 => ?_) (fun hf35 => ?_)
          · refine TE_s rfl rfl rfl rfl rfl ?_
            refine TE_s rfl rfl rfl rfl rfl ?_
            refine TE_s rfl rfl rfl rfl rfl ?_
            refine TE_s rfl rfl rfl rfl rfl ?_
            refine TE_q rfl rfl (RD.pickT rfl rfl) rfl ?_
            refine TE_q rfl rfl (RD.move rfl) rfl ?_
            refine TE_s rfl rfl rfl rfl rfl ?_
            refine TE_s rfl rfl rfl rfl rfl ?_
            refine TE_s rfl rfl rfl rfl rfl ?_
            refine TE_s rfl rfl rfl rfl rfl ?_
            refine TE_s rfl rfl rfl rfl rfl ?_
            refine TE_q rfl rfl (RD.pickT rfl rfl) rfl ?_
            refine TE_q rfl rfl (RD.move rfl) rfl ?_
            refine TE_s rfl rfl rfl rfl rfl ?_
            refine TE_s rfl rfl rfl rfl rfl ?_
            refine TE_s rfl rfl rfl rfl rfl ?_
            refine TE_q rfl rfl (RD.pickT rfl rfl) rfl ?_
            refine TE_q rfl rfl (RD.move rfl) rfl ?_
            refine TE_s rfl rfl rfl rfl rfl ?_
            refine TE_s rfl rfl rfl rfl rfl ?_
            refine TE_s rfl rfl rfl rfl rfl ?_
            refine TE_s rfl rfl rfl rfl rfl ?_
            refine TE_s rfl rfl rfl rfl rfl ?_
            refine TE_q rfl rfl (RD.pickT rfl rfl) rfl ?_
            refine TE_nil ?_
            exact pn_give () trivial ⟨rfl, rfl, congrArg (fun b => some (Value.bool b)) (by first | (simp [hf35]; done) | (simp only [decide_eq_false hf35]; rfl) | (simp only [decide_eq_false hf35]; simp; done)), trivial⟩ (fun _ hw => hw.sp (fun a => by simp -failIfUnchanged <;> omega))
          · refine TE_gq rfl rfl rfl rfl (RD.loadA (i := 1) Tryz.isAgg48 Tryz.sizeOf48 rfl rfl (Nat.le_of_ble_eq_true rfl) (obj_all _ _ _ _)) rfl ?_
            refine TE_gq rfl rfl rfl rfl (RD.loadA (i := 2) Tryz.isAgg48 Tryz.sizeOf48 rfl rfl (Nat.le_of_ble_eq_true rfl) (obj_all _ _ _ _)) rfl ?_
            refine TE_callG _ ((0, .cells (wfV 8 (s8f shaB)).cells 107 (0, 0)) :: (1, .cells (wfV 64 (gtf shaK)).cells 217 (0, 0)) :: ((bldMx 5 (byteC) x17.data st21) ++ ((bldMx 97 (entC) x17.ents st24) ++ ((bldMx 36 (idC) x17.pars st27) ++ HX)))) rfl rfl ⟨_, rfl, rfl⟩ Tryz.call36 rfl rfl rfl (fun w hw => c_obSame x17 (bldVx x17.data st21) (bldVx x17.ents st24) (bldVx x17.pars st27) x xd xe xp ((0, .cells (wfV 8 (s8f shaB)).cells 107 (0, 0)) :: (1, .cells (wfV 64 (gtf shaK)).cells 217 (0, 0)) :: ((bldMx 5 (byteC) x17.data st21) ++ ((bldMx 97 (entC) x17.ents st24) ++ ((bldMx 36 (idC) x17.pars st27) ++ HX)))) w ((Rdb.of_x hRD23).mono (fun _ hw => hw.sp (fun a => by simp -failIfUnchanged <;> omega))) (hRD26.mono (fun _ hw => hw.sp (fun a => by simp -failIfUnchanged <;> omega))) (hRD29.mono (fun _ hw => hw.sp (fun a => by simp -failIfUnchanged <;> omega))) (hbxd.mono (fun _ hw => hw.sp (fun a => by simp -failIfUnchanged <;> omega))) (hbxe.mono (fun _ hw => hw.sp (fun a => by simp -failIfUnchanged <;> omega))) (hbxp.mono (fun _ hw => hw.sp (fun a => by simp -failIfUnchanged <;> omega))) ⟨(by first | omega | (dsimp only [List.length_nil]; omega) | simp), (by first | omega | (dsimp only [List.length_nil]; omega) | simp)⟩ ⟨(by first | omega | (dsimp only [List.length_nil]; omega) | simp), (by first | omega | (dsimp only [List.length_nil]; omega) | simp)⟩ (hw.sp (fun a => by simp -failIfUnchanged <;> omega))) (fun a => by simp -failIfUnchanged <;> omega) ?_
            rintro v36 H37 ⟨rfl, rfl⟩ -
            refine TE_gq rfl rfl rfl rfl (RD.not rfl) rfl ?_
            refine TE_q rfl rfl (RD.pickF rfl rfl) rfl ?_
            refine TE_q rfl rfl (RD.move rfl) rfl ?_
            refine TE_bool (fun hf38 => ?_) (fun hf38 => ?_)
            · refine TE_s rfl rfl rfl rfl rfl ?_
              refine TE_s rfl rfl rfl rfl rfl ?_
              refine TE_s rfl rfl rfl rfl rfl ?_
              refine TE_s rfl rfl rfl rfl rfl ?_
              refine TE_s rfl rfl rfl rfl rfl ?_
              refine TE_q rfl rfl (RD.pickT rfl rfl) rfl ?_
              refine TE_q rfl rfl (RD.move rfl) rfl ?_
              refine TE_s rfl rfl rfl rfl rfl ?_
              refine TE_s rfl rfl rfl rfl rfl ?_
              refine TE_s rfl rfl rfl rfl rfl ?_
              refine TE_q rfl rfl (RD.pickT rfl rfl) rfl ?_
              refine TE_q rfl rfl (RD.move rfl) rfl ?_
              refine TE_s rfl rfl rfl rfl rfl ?_
              refine TE_s rfl rfl rfl rfl rfl ?_
              refine TE_s rfl rfl rfl rfl rfl ?_
              refine TE_s rfl rfl rfl rfl rfl ?_
              refine TE_s rfl rfl rfl rfl rfl ?_
              refine TE_q rfl rfl (RD.pickT rfl rfl) rfl ?_
              refine TE_nil ?_
              exact pn_give () trivial ⟨rfl, rfl, congrArg (fun b => some (Value.bool b)) (by first | (simp [hf35, hf38]; done) | (simp only [decide_eq_true hf35, hf38]; rfl) | (simp only [decide_eq_true hf35, hf38]; simp; done)), trivial⟩ (fun _ hw => hw.sp (fun a => by simp -failIfUnchanged <;> omega))
            · refine TE_gq rfl rfl rfl rfl (RD.loadA (i := 0) Tryz.isAgg36 Tryz.sizeOf36 rfl rfl (Nat.le_of_ble_eq_true rfl) (id_all _)) rfl ?_
              refine TE_gq rfl rfl rfl rfl (RD.move rfl) rfl ?_
              refine TE_buildSlice (cells := #[bldVx (obB x) st9]) rfl Tryz.runUnderlying30 Tryz.sizeOf32 Tryz.zeroValue32 rfl rfl rfl (by obtain ⟨a0, c0, e0⟩ := (hRD12).shape; rw [e0]; kernel_rfl) ⟨_, rfl, rfl⟩ rfl fun b62 hb62 => ?_
              refine TE_callG _ ((b62, .cells #[bldVx (obB x) st9] 32 (0, 0)) :: (0, .cells (wfV 8 (s8f shaB)).cells 107 (0, 0)) :: (1, .cells (wfV 64 (gtf shaK)).cells 217 (0, 0)) :: (bldMx 5 (byteC) (obB x) st9)) rfl rfl ⟨_, rfl, rfl⟩ Tryz.call19 rfl rfl rfl (fun w hw => c_hashOf b62 (bldVx (obB x) st9) (obB x) (bldMx 5 (byteC) (obB x) st9) w ((Rdb.of_x hRD12).mono (fun _ hw => hw.sp (fun a => by simp -failIfUnchanged <;> omega))) (by have h9 := obB_4000 hok8; omega) (hw.sp (fun a => by simp -failIfUnchanged <;> omega))) (fun a => by simp -failIfUnchanged <;> omega) ?_
              rintro v39 H40 ⟨rfl, rfl⟩ -
              refine TE_gq rfl rfl rfl rfl (RD.neq_agg Tryz.eqGuardType36 (eq_id (idO x) (shaF (obB x))) rfl rfl) rfl ?_
              refine TE_q rfl rfl (RD.pickF rfl rfl) rfl ?_
              refine TE_q rfl rfl (RD.move rfl) rfl ?_
              refine TE_bool (fun hf41 => ?_) (fun hf41 => ?_)
              · refine TE_s rfl rfl rfl rfl rfl ?_
                refine TE_s rfl rfl rfl rfl rfl ?_
                refine TE_s rfl rfl rfl rfl rfl ?_
                refine TE_q rfl rfl (RD.pickT rfl rfl) rfl ?_
                refine TE_q rfl rfl (RD.move rfl) rfl ?_
                refine TE_s rfl rfl rfl rfl rfl ?_
                refine TE_s rfl rfl rfl rfl rfl ?_
                refine TE_s rfl rfl rfl rfl rfl ?_
                refine TE_s rfl rfl rfl rfl rfl ?_
                refine TE_s rfl rfl rfl rfl rfl ?_
                refine TE_q rfl rfl (RD.pickT rfl rfl) rfl ?_
                refine TE_nil ?_
                exact pn_give () trivial ⟨rfl, rfl, congrArg (fun b => some (Value.bool b)) (by first | (simp [hf35, hf38, hf41]; done) | (simp only [decide_eq_true hf35, hf38, hf41]; rfl) | (simp only [decide_eq_true hf35, hf38, hf41]; simp; done)), trivial⟩ (fun _ hw => hw.sp (fun a => by simp -failIfUnchanged <;> omega))
              · refine TE_gq rfl rfl rfl rfl (RD.move rfl) rfl ?_
                refine TE_gq rfl rfl rfl rfl (RD.lenX Tryz.runUnderlying32 rfl hRD12) rfl ?_
                refine TE_gq rfl rfl rfl rfl (RD.gtr rfl rfl) rfl ?_
                refine TE_q rfl rfl (RD.pickF rfl rfl) rfl ?_
                refine TE_q rfl rfl (RD.move rfl) rfl ?_
                refine TE_dec (fun hf42 => ?_) (fun hf42 => ?_)
                · refine TE_s rfl rfl rfl rfl rfl ?_
                  refine TE_s rfl rfl rfl rfl rfl ?_
                  refine TE_s rfl rfl rfl rfl rfl ?_
                  refine TE_s rfl rfl rfl rfl rfl ?_
                  refine TE_s rfl rfl rfl rfl rfl ?_
                  refine TE_q rfl rfl (RD.pickT rfl rfl) rfl ?_
                  refine TE_nil ?_
                  exact pn_give () trivial ⟨rfl, rfl, congrArg (fun b => some (Value.bool b)) (by first | (simp [hf35, hf38, hf41, hf42]; done) | (simp only [decide_eq_true hf35, hf38, hf41, decide_eq_true hf42]; rfl) | (simp only [decide_eq_true hf35, hf38, hf41, decide_eq_true hf42]; simp; done)), trivial⟩ (fun _ hw => hw.sp (fun a => by simp -failIfUnchanged <;> omega))
                · refine TE_gq rfl rfl rfl rfl (RD.move rfl) rfl ?_
                  refine TE_callG _ (bldMx 5 (byteC) (obB x) st9) rfl rfl ⟨_, rfl, rfl⟩ Tryz.call23 rfl rfl rfl (fun w hw => c_obKind (bldVx (obB x) st9) (obB x) (bldMx 5 (byteC) (obB x) st9) w ((Rdb.of_x hRD12).mono (fun _ hw => hw.sp (fun a => by simp -failIfUnchanged <;> omega))) (by have h9 := obB_4000 hok8; omega) (hw.sp (fun a => by simp -failIfUnchanged <;> omega))) (fun a => by simp -failIfUnchanged <;> omega) ?_
                  rintro v43 H44 ⟨rfl, rfl⟩ -
                  refine TE_gq rfl rfl rfl rfl (RD.fieldAddr (o := 0) Tryz.runUnderlying48 rfl rfl Tryz.sizeOf3 rfl) rfl ?_
                  refine TE_gq rfl rfl rfl rfl (RD.load (i := 2) (v := .int .i64 x.k) Tryz.isAgg3 rfl rfl rfl) rfl ?_
                  refine TE_gq rfl rfl rfl rfl (RD.neq rfl rfl) rfl ?_
                  refine TE_q rfl rfl (RD.pickF rfl rfl) rfl ?_
                  refine TE_nil ?_
                  exact pn_give () trivial ⟨rfl, rfl, congrArg (fun b => some (Value.bool b)) (by first | (simp [hf35, hf38, hf41, hf42]; done) | (simp only [decide_eq_true hf35, hf38, hf41, decide_eq_false hf42]; rfl) | (simp only [decide_eq_true hf35, hf38, hf41, decide_eq_false hf42]; simp; done)), trivial⟩ (fun _ hw => hw.sp (fun a => by simp -failIfUnchanged <;> omega))
        rintro _ -
        refine pn_cond rfl (fun hc45 => ?_) (fun hc45 => ?_)
        · exfalso
          have ⟨q1, q2, q3, q4, q5⟩ := back_facts hok8 hkx hpm18; simp [q1, q2, q4, q5] at hc45; omega
        · simp only [Bool.not_eq_false', Bool.or_eq_false_iff, decide_eq_false_iff_not, decide_eq_true_eq] at hc45
          refine pn_skip ?_
          refine pn_seq ?_
          refine pn_plainG [] ((0, .cells (wfV 8 (s8f shaB)).cells 107 (0, 0)) :: (1, .cells (wfV 64 (gtf shaK)).cells 217 (0, 0)) :: HX) rfl (fun a => by simp -failIfUnchanged <;> omega) ?_
          refine TE_q rfl rfl (RD.move rfl) rfl ?_
          refine TE_callG _ ((0, .cells (wfV 8 (s8f shaB)).cells 107 (0, 0)) :: (1, .cells (wfV 64 (gtf shaK)).cells 217 (0, 0)) :: HX) rfl rfl trivial Tryz.call28 rfl rfl rfl (fun w hw => c_parse bv b ((0, .cells (wfV 8 (s8f shaB)).cells 107 (0, 0)) :: (1, .cells (wfV 64 (gtf shaK)).cells 217 (0, 0)) :: HX) w (hbb.mono (fun _ hw => hw.sp (fun a => by simp -failIfUnchanged <;> omega))) (by first | assumption | omega | (simp; done) | (simp; omega)) (hw.sp (fun a => by simp -failIfUnchanged <;> omega))) (fun a => by simp -failIfUnchanged <;> omega) ?_
          rintro v59 H60 (⟨x46, st50, st53, st56, hpm47, hox48, hbo51, hbo54, hbo57, rfl, rfl⟩ | ⟨hpm47, rfl, rfl⟩) hX61
          · have hRD52 : Rdx 1 (byteC) (bldMx 5 (byteC) x46.data st50) (bldVx x46.data st50) x46.data := hbo51.rdx (u := 5) byteC_len; have hRD55 : Rdx 34 (entC) (bldMx 97 (entC) x46.ents st53) (bldVx x46.ents st53) x46.ents := hbo54.rdx (u := 97) entC_len; have hRD58 : Rdx 32 (idC) (bldMx 36 (idC) x46.pars st56) (bldVx x46.pars st56) x46.pars := hbo57.rdx (u := 36) idC_len; have hk1x46 := hox48.d; have hk2x46 := hox48.e; have hk3x46 := hox48.p; have hk4x46 := hox48.m; refine TE_sp ((0, .cells (wfV 8 (s8f shaB)).cells 107 (0, 0)) :: (1, .cells (wfV 64 (gtf shaK)).cells 217 (0, 0)) :: ((bldMx 5 (byteC) x46.data st50) ++ ((bldMx 97 (entC) x46.ents st53) ++ ((bldMx 36 (idC) x46.pars st56) ++ HX)))) (fun a => by simp -failIfUnchanged <;> omega) ?_
            refine TE_q rfl rfl (RD.move rfl) rfl ?_
            refine TE_q rfl rfl (RD.extract rfl rfl) rfl ?_
            refine TE_q rfl rfl (RD.extract rfl rfl) rfl ?_
            refine TE_allocC (objV (⟨0, [], [], (fun _ => 0), [], (⟨0, (fun _ => 0)⟩ : Lnk), ⟨#[]⟩⟩ : Ob) (.slice none 0 0) (.slice none 0 0) (.slice none 0 0)).cells rfl Tryz.zeroValue48 rfl trivial rfl fun b12 hb12 => ?_
            refine TE_putCW 0 (objV (⟨0, [], [], (fun _ => 0), [], (⟨0, (fun _ => 0)⟩ : Lnk), ⟨#[]⟩⟩ : Ob) (.slice none 0 0) (.slice none 0 0) (.slice none 0 0)).cells (objV x46 (bldVx x46.data st50) (bldVx x46.ents st53) (bldVx x46.pars st56)).cells ((b12, .cells (objV x46 (bldVx x46.data st50) (bldVx x46.ents st53) (bldVx x46.pars st56)).cells 48 (0, 0)) :: (0, .cells (wfV 8 (s8f shaB)).cells 107 (0, 0)) :: (1, .cells (wfV 64 (gtf shaK)).cells 217 (0, 0)) :: ((bldMx 5 (byteC) x46.data st50) ++ ((bldMx 97 (entC) x46.ents st53) ++ ((bldMx 36 (idC) x46.pars st56) ++ HX)))) rfl Tryz.sizeOf48 trivial rfl rfl rfl (objV_one _ _ _ _ (bvx_one _ _) (bvx_one _ _) (bvx_one _ _)) rfl rfl rfl rfl (.inl hb12) ?_
            refine TE_q rfl rfl (RD.assign rfl) rfl ?_
            refine TE_nil0 ?_
            refine pn_seq ?_
            refine pn_seq ?_
            refine pn_plain [] rfl ?_
            refine TE_q rfl rfl (RD.move rfl) rfl ?_
            refine TE_q rfl rfl (RD.as (v := .bool false) (RD.neq rfl rfl) rfl) rfl ?_
            refine TE_nil0 ?_
            refine pn_condF rfl ?_
            refine pn_skip ?_
            refine pn_seq ?_
            refine pn_plain [] rfl ?_
            refine TE_l rfl rfl trivial rfl (RD.loadA (i := 0) Tryz.isAgg48 Tryz.sizeOf48 rfl rfl (Nat.le_of_ble_eq_true rfl) (obj_all _ _ _ _)) rfl ?_
            refine TE_callG _ ((bldMx 5 (byteC) x46.data st50) ++ ((bldMx 97 (entC) x46.ents st53) ++ (bldMx 36 (idC) x46.pars st56))) rfl rfl trivial Tryz.call26 rfl rfl rfl (fun w hw => c_obEncode x46 (bldVx x46.data st50) (bldVx x46.ents st53) (bldVx x46.pars st56) ((bldMx 5 (byteC) x46.data st50) ++ ((bldMx 97 (entC) x46.ents st53) ++ (bldMx 36 (idC) x46.pars st56))) w ((Rdb.of_x hRD52).mono (fun _ hw => hw.sp (fun a => by simp -failIfUnchanged <;> omega))) (hRD55.mono (fun _ hw => hw.sp (fun a => by simp -failIfUnchanged <;> omega))) (hRD58.mono (fun _ hw => hw.sp (fun a => by simp -failIfUnchanged <;> omega))) hox48 (hw.sp (fun a => by simp -failIfUnchanged <;> omega))) (fun a => by simp -failIfUnchanged <;> omega) ?_
            rintro v68 H69 (⟨hok62, st63, hbo64, rfl, rfl⟩ | ⟨hok67, rfl, rfl⟩) hX70
            · have hRD66 : Rdx 1 (byteC) (bldMx 5 (byteC) (obB x46) st63) (bldVx (obB x46) st63) (obB x46) := hbo64.rdx (u := 5) byteC_len; refine TE_sp ((b12, .cells (objV x46 (bldVx x46.data st50) (bldVx x46.ents st53) (bldVx x46.pars st56)).cells 48 (0, 0)) :: (0, .cells (wfV 8 (s8f shaB)).cells 107 (0, 0)) :: (1, .cells (wfV 64 (gtf shaK)).cells 217 (0, 0)) :: ((bldMx 5 (byteC) (obB x46) st63) ++ ((bldMx 5 (byteC) x46.data st50) ++ ((bldMx 97 (entC) x46.ents st53) ++ ((bldMx 36 (idC) x46.pars st56) ++ HX))))) (fun a => by simp -failIfUnchanged <;> omega) ?_
              refine TE_q rfl rfl (RD.move rfl) rfl ?_
              refine TE_q rfl rfl (RD.extract rfl rfl) rfl ?_
              refine TE_q rfl rfl (RD.extract rfl rfl) rfl ?_
              refine TE_q rfl rfl (RD.assign rfl) rfl ?_
              refine TE_q rfl rfl (RD.assign rfl) rfl ?_
              refine TE_nil0 ?_
              refine pn_seq ?_
              refine pn_plainG [] ((0, .cells (wfV 8 (s8f shaB)).cells 107 (0, 0)) :: (1, .cells (wfV 64 (gtf shaK)).cells 217 (0, 0)) :: ((bldMx 5 (byteC) (obB x46) st63) ++ HX)) rfl (fun a => by simp -failIfUnchanged <;> omega) ?_
              refine TE_q rfl rfl (RD.move rfl) rfl ?_
              refine TE_q rfl rfl (RD.move rfl) rfl ?_
              refine TE_gq rfl rfl rfl rfl (RD.move rfl) rfl ?_
              refine TE_gq rfl rfl rfl rfl (RD.as (v := .bool true) (RD.eql rfl rfl) rfl) rfl ?_
              refine TE_q rfl rfl (RD.pickT rfl rfl) rfl ?_
              refine TE_q rfl rfl (RD.move rfl) rfl ?_
              refine TE_gq rfl rfl rfl rfl (RD.move rfl) rfl ?_
              refine TE_l rfl rfl ⟨_, rfl, rfl⟩ rfl (RD.str_of_bytes Tryz.underlying32 Tryz.underlying9 Tryz.underlying5 rfl (BytesIn.mono ((Rdb.of_x hRD66)).bytes (fun _ hw => hw.sp (fun a => by simp -failIfUnchanged <;> omega)))) rfl ?_
              refine TE_gq rfl rfl rfl rfl (RD.move rfl) rfl ?_
              refine TE_l rfl rfl ⟨_, rfl, rfl⟩ rfl (RD.str_of_bytes Tryz.underlying32 Tryz.underlying9 Tryz.underlying5 rfl (BytesIn.mono (hbb).bytes (fun _ hw => hw.sp (fun a => by simp -failIfUnchanged <;> omega)))) rfl ?_
              refine TE_gq rfl rfl rfl rfl (RD.eql_string rfl rfl) rfl ?_
              refine TE_q rfl rfl (RD.pickT rfl rfl) rfl ?_
              refine TE_q rfl rfl (RD.assign rfl) rfl ?_
              refine TE_nil0 ?_
              refine pn_ret ?_
              exact pn_doneS [] rfl rfl ⟨(congrArg Value.bool (by rw [(parse_back hpm47).1]; simp)), rfl⟩ (fun _ => Nat.zero_le _) (fun _ he => nomatch he)
            · exact dead_bad hpm47 hok67
          · refine TE_q rfl rfl (RD.move rfl) rfl ?_
            refine TE_q rfl rfl (RD.extract rfl rfl) rfl ?_
            refine TE_q rfl rfl (RD.extract rfl rfl) rfl ?_
            refine TE_allocC (objV (⟨0, [], [], (fun _ => 0), [], (⟨0, (fun _ => 0)⟩ : Lnk), ⟨#[]⟩⟩ : Ob) (.slice none 0 0) (.slice none 0 0) (.slice none 0 0)).cells rfl Tryz.zeroValue48 rfl trivial rfl fun b12 hb12 => ?_
            refine TE_putCW 0 (objV (⟨0, [], [], (fun _ => 0), [], (⟨0, (fun _ => 0)⟩ : Lnk), ⟨#[]⟩⟩ : Ob) (.slice none 0 0) (.slice none 0 0) (.slice none 0 0)).cells (objV (⟨0, [], [], (fun _ => 0), [], (⟨0, (fun _ => 0)⟩ : Lnk), ⟨#[]⟩⟩ : Ob) (.slice none 0 0) (.slice none 0 0) (.slice none 0 0)).cells ((b12, .cells (objV (⟨0, [], [], (fun _ => 0), [], (⟨0, (fun _ => 0)⟩ : Lnk), ⟨#[]⟩⟩ : Ob) (.slice none 0 0) (.slice none 0 0) (.slice none 0 0)).cells 48 (0, 0)) :: (0, .cells (wfV 8 (s8f shaB)).cells 107 (0, 0)) :: (1, .cells (wfV 64 (gtf shaK)).cells 217 (0, 0)) :: HX) rfl Tryz.sizeOf48 trivial rfl rfl rfl (objV_one _ _ _ _ rfl rfl rfl) rfl rfl rfl rfl (.inl hb12) ?_
            refine TE_q rfl rfl (RD.assign rfl) rfl ?_
            refine TE_nil0 ?_
            refine pn_seq ?_
            refine pn_seq ?_
            refine pn_plain [] rfl ?_
            refine TE_q rfl rfl (RD.move rfl) rfl ?_
            refine TE_q rfl rfl (RD.as (v := .bool true) (RD.neq rfl rfl) rfl) rfl ?_
            refine TE_nil0 ?_
            refine pn_condT rfl ?_
            refine pn_seq ?_
            refine pn_plainG [] ((0, .cells (wfV 8 (s8f shaB)).cells 107 (0, 0)) :: (1, .cells (wfV 64 (gtf shaK)).cells 217 (0, 0)) :: HX) rfl (fun a => by simp -failIfUnchanged <;> omega) ?_
            refine TE_q rfl rfl (RD.move rfl) rfl ?_
            refine TE_q rfl rfl (RD.move rfl) rfl ?_
            refine TE_gq rfl rfl rfl rfl (RD.move rfl) rfl ?_
            refine TE_gq rfl rfl rfl rfl (RD.as (v := .bool true) (RD.eql rfl rfl) rfl) rfl ?_
            refine TE_q rfl rfl (RD.pickT rfl rfl) rfl ?_
            refine TE_q rfl rfl (RD.move rfl) rfl ?_
            refine TE_gq rfl rfl rfl rfl (RD.move rfl) rfl ?_
            refine TE_callG _ ((0, .cells (wfV 8 (s8f shaB)).cells 107 (0, 0)) :: (1, .cells (wfV 64 (gtf shaK)).cells 217 (0, 0)) :: HX) rfl rfl ⟨_, rfl, rfl⟩ Tryz.call23 rfl rfl rfl (fun w hw => c_obKind bv b ((0, .cells (wfV 8 (s8f shaB)).cells 107 (0, 0)) :: (1, .cells (wfV 64 (gtf shaK)).cells 217 (0, 0)) :: HX) w (hbb.mono (fun _ hw => hw.sp (fun a => by simp -failIfUnchanged <;> omega))) (by first | assumption | omega | (simp; done) | (simp; omega)) (hw.sp (fun a => by simp -failIfUnchanged <;> omega))) (fun a => by simp -failIfUnchanged <;> omega) ?_
            rintro v71 H72 ⟨rfl, rfl⟩ -
            refine TE_gq rfl rfl rfl rfl (RD.eql rfl rfl) rfl ?_
            refine TE_q rfl rfl (RD.pickT rfl rfl) rfl ?_
            refine TE_q rfl rfl (RD.assign rfl) rfl ?_
            refine TE_nil0 ?_
            refine pn_ret ?_
            exact pn_doneS [] rfl rfl ⟨(congrArg Value.bool (by rw [kindM_none hpm47]; rfl)), rfl⟩ (fun _ => Nat.zero_le _) (fun _ he => nomatch he)
      · exact dead_none hok8 hkx hpm18
    · refine TE_q rfl rfl (RD.move rfl) rfl ?_
      refine TE_q rfl rfl (RD.extract rfl rfl) rfl ?_
      refine TE_q rfl rfl (RD.extract rfl rfl) rfl ?_
      refine TE_q rfl rfl (RD.assign rfl) rfl ?_
      refine TE_q rfl rfl (RD.assign rfl) rfl ?_
      refine TE_nil0 ?_
      refine pn_seq ?_
      refine pn_plain [] rfl ?_
      refine TE_q rfl rfl (RD.move rfl) rfl ?_
      refine TE_q rfl rfl (RD.as (v := .bool false) (RD.eql rfl rfl) rfl) rfl ?_
      refine TE_nil0 ?_
      refine pn_condF rfl ?_
      refine pn_skip ?_
      refine pn_seq ?_
      refine pn_plainG [] ((0, .cells (wfV 8 (s8f shaB)).cells 107 (0, 0)) :: (1, .cells (wfV 64 (gtf shaK)).cells 217 (0, 0)) :: HX) rfl (fun a => by simp -failIfUnchanged <;> omega) ?_
      refine TE_q rfl rfl (RD.move rfl) rfl ?_
      refine TE_callG _ ((0, .cells (wfV 8 (s8f shaB)).cells 107 (0, 0)) :: (1, .cells (wfV 64 (gtf shaK)).cells 217 (0, 0)) :: HX) rfl rfl trivial Tryz.call28 rfl rfl rfl (fun w hw => c_parse bv b ((0, .cells (wfV 8 (s8f shaB)).cells 107 (0, 0)) :: (1, .cells (wfV 64 (gtf shaK)).cells 217 (0, 0)) :: HX) w (hbb.mono (fun _ hw => hw.sp (fun a => by simp -failIfUnchanged <;> omega))) (by first | assumption | omega | (simp; done) | (simp; omega)) (hw.sp (fun a => by simp -failIfUnchanged <;> omega))) (fun a => by simp -failIfUnchanged <;> omega) ?_
      rintro v86 H87 (⟨x73, st77, st80, st83, hpm74, hox75, hbo78, hbo81, hbo84, rfl, rfl⟩ | ⟨hpm74, rfl, rfl⟩) hX88
      · have hRD79 : Rdx 1 (byteC) (bldMx 5 (byteC) x73.data st77) (bldVx x73.data st77) x73.data := hbo78.rdx (u := 5) byteC_len; have hRD82 : Rdx 34 (entC) (bldMx 97 (entC) x73.ents st80) (bldVx x73.ents st80) x73.ents := hbo81.rdx (u := 97) entC_len; have hRD85 : Rdx 32 (idC) (bldMx 36 (idC) x73.pars st83) (bldVx x73.pars st83) x73.pars := hbo84.rdx (u := 36) idC_len; have hk1x73 := hox75.d; have hk2x73 := hox75.e; have hk3x73 := hox75.p; have hk4x73 := hox75.m; refine TE_sp ((0, .cells (wfV 8 (s8f shaB)).cells 107 (0, 0)) :: (1, .cells (wfV 64 (gtf shaK)).cells 217 (0, 0)) :: ((bldMx 5 (byteC) x73.data st77) ++ ((bldMx 97 (entC) x73.ents st80) ++ ((bldMx 36 (idC) x73.pars st83) ++ HX)))) (fun a => by simp -failIfUnchanged <;> omega) ?_
        refine TE_q rfl rfl (RD.move rfl) rfl ?_
        refine TE_q rfl rfl (RD.extract rfl rfl) rfl ?_
        refine TE_q rfl rfl (RD.extract rfl rfl) rfl ?_
        refine TE_allocC (objV (⟨0, [], [], (fun _ => 0), [], (⟨0, (fun _ => 0)⟩ : Lnk), ⟨#[]⟩⟩ : Ob) (.slice none 0 0) (.slice none 0 0) (.slice none 0 0)).cells rfl Tryz.zeroValue48 rfl trivial rfl fun b12 hb12 => ?_
        refine TE_putCW 0 (objV (⟨0, [], [], (fun _ => 0), [], (⟨0, (fun _ => 0)⟩ : Lnk), ⟨#[]⟩⟩ : Ob) (.slice none 0 0) (.slice none 0 0) (.slice none 0 0)).cells (objV x73 (bldVx x73.data st77) (bldVx x73.ents st80) (bldVx x73.pars st83)).cells ((b12, .cells (objV x73 (bldVx x73.data st77) (bldVx x73.ents st80) (bldVx x73.pars st83)).cells 48 (0, 0)) :: (0, .cells (wfV 8 (s8f shaB)).cells 107 (0, 0)) :: (1, .cells (wfV 64 (gtf shaK)).cells 217 (0, 0)) :: ((bldMx 5 (byteC) x73.data st77) ++ ((bldMx 97 (entC) x73.ents st80) ++ ((bldMx 36 (idC) x73.pars st83) ++ HX)))) rfl Tryz.sizeOf48 trivial rfl rfl rfl (objV_one _ _ _ _ (bvx_one _ _) (bvx_one _ _) (bvx_one _ _)) rfl rfl rfl rfl (.inl hb12) ?_
        refine TE_q rfl rfl (RD.assign rfl) rfl ?_
        refine TE_nil0 ?_
        refine pn_seq ?_
        refine pn_seq ?_
        refine pn_plain [] rfl ?_
        refine TE_q rfl rfl (RD.move rfl) rfl ?_
        refine TE_q rfl rfl (RD.as (v := .bool false) (RD.neq rfl rfl) rfl) rfl ?_
        refine TE_nil0 ?_
        refine pn_condF rfl ?_
        refine pn_skip ?_
        refine pn_seq ?_
        refine pn_plain [] rfl ?_
        refine TE_l rfl rfl trivial rfl (RD.loadA (i := 0) Tryz.isAgg48 Tryz.sizeOf48 rfl rfl (Nat.le_of_ble_eq_true rfl) (obj_all _ _ _ _)) rfl ?_
        refine TE_callG _ ((bldMx 5 (byteC) x73.data st77) ++ ((bldMx 97 (entC) x73.ents st80) ++ (bldMx 36 (idC) x73.pars st83))) rfl rfl trivial Tryz.call26 rfl rfl rfl (fun w hw => c_obEncode x73 (bldVx x73.data st77) (bldVx x73.ents st80) (bldVx x73.pars st83) ((bldMx 5 (byteC) x73.data st77) ++ ((bldMx 97 (entC) x73.ents st80) ++ (bldMx 36 (idC) x73.pars st83))) w ((Rdb.of_x hRD79).mono (fun _ hw => hw.sp (fun a => by simp -failIfUnchanged <;> omega))) (hRD82.mono (fun _ hw => hw.sp (fun a => by simp -failIfUnchanged <;> omega))) (hRD85.mono (fun _ hw => hw.sp (fun a => by simp -failIfUnchanged <;> omega))) hox75 (hw.sp (fun a => by simp -failIfUnchanged <;> omega))) (fun a => by simp -failIfUnchanged <;> omega) ?_
        rintro v95 H96 (⟨hok89, st90, hbo91, rfl, rfl⟩ | ⟨hok94, rfl, rfl⟩) hX97
        · have hRD93 : Rdx 1 (byteC) (bldMx 5 (byteC) (obB x73) st90) (bldVx (obB x73) st90) (obB x73) := hbo91.rdx (u := 5) byteC_len; refine TE_sp ((b12, .cells (objV x73 (bldVx x73.data st77) (bldVx x73.ents st80) (bldVx x73.pars st83)).cells 48 (0, 0)) :: (0, .cells (wfV 8 (s8f shaB)).cells 107 (0, 0)) :: (1, .cells (wfV 64 (gtf shaK)).cells 217 (0, 0)) :: ((bldMx 5 (byteC) (obB x73) st90) ++ ((bldMx 5 (byteC) x73.data st77) ++ ((bldMx 97 (entC) x73.ents st80) ++ ((bldMx 36 (idC) x73.pars st83) ++ HX))))) (fun a => by simp -failIfUnchanged <;> omega) ?_
          refine TE_q rfl rfl (RD.move rfl) rfl ?_
          refine TE_q rfl rfl (RD.extract rfl rfl) rfl ?_
          refine TE_q rfl rfl (RD.extract rfl rfl) rfl ?_
          refine TE_q rfl rfl (RD.assign rfl) rfl ?_
          refine TE_q rfl rfl (RD.assign rfl) rfl ?_
          refine TE_nil0 ?_
          refine pn_seq ?_
          refine pn_plainG [] ((0, .cells (wfV 8 (s8f shaB)).cells 107 (0, 0)) :: (1, .cells (wfV 64 (gtf shaK)).cells 217 (0, 0)) :: ((bldMx 5 (byteC) (obB x73) st90) ++ HX)) rfl (fun a => by simp -failIfUnchanged <;> omega) ?_
          refine TE_q rfl rfl (RD.move rfl) rfl ?_
          refine TE_q rfl rfl (RD.move rfl) rfl ?_
          refine TE_gq rfl rfl rfl rfl (RD.move rfl) rfl ?_
          refine TE_gq rfl rfl rfl rfl (RD.as (v := .bool true) (RD.eql rfl rfl) rfl) rfl ?_
          refine TE_q rfl rfl (RD.pickT rfl rfl) rfl ?_
          refine TE_q rfl rfl (RD.move rfl) rfl ?_
          refine TE_gq rfl rfl rfl rfl (RD.move rfl) rfl ?_
          refine TE_l rfl rfl ⟨_, rfl, rfl⟩ rfl (RD.str_of_bytes Tryz.underlying32 Tryz.underlying9 Tryz.underlying5 rfl (BytesIn.mono ((Rdb.of_x hRD93)).bytes (fun _ hw => hw.sp (fun a => by simp -failIfUnchanged <;> omega)))) rfl ?_
          refine TE_gq rfl rfl rfl rfl (RD.move rfl) rfl ?_
          refine TE_l rfl rfl ⟨_, rfl, rfl⟩ rfl (RD.str_of_bytes Tryz.underlying32 Tryz.underlying9 Tryz.underlying5 rfl (BytesIn.mono (hbb).bytes (fun _ hw => hw.sp (fun a => by simp -failIfUnchanged <;> omega)))) rfl ?_
          refine TE_gq rfl rfl rfl rfl (RD.eql_string rfl rfl) rfl ?_
          refine TE_q rfl rfl (RD.pickT rfl rfl) rfl ?_
          refine TE_q rfl rfl (RD.assign rfl) rfl ?_
          refine TE_nil0 ?_
          refine pn_ret ?_
          exact pn_doneS [] rfl rfl ⟨(congrArg Value.bool (by rw [(parse_back hpm74).1]; simp)), rfl⟩ (fun _ => Nat.zero_le _) (fun _ he => nomatch he)
        · exact dead_bad hpm74 hok94
      · refine TE_q rfl rfl (RD.move rfl) rfl ?_
        refine TE_q rfl rfl (RD.extract rfl rfl) rfl ?_
        refine TE_q rfl rfl (RD.extract rfl rfl) rfl ?_
        refine TE_allocC (objV (⟨0, [], [], (fun _ => 0), [], (⟨0, (fun _ => 0)⟩ : Lnk), ⟨#[]⟩⟩ : Ob) (.slice none 0 0) (.slice none 0 0) (.slice none 0 0)).cells rfl Tryz.zeroValue48 rfl trivial rfl fun b12 hb12 => ?_
        refine TE_putCW 0 (objV (⟨0, [], [], (fun _ => 0), [], (⟨0, (fun _ => 0)⟩ : Lnk), ⟨#[]⟩⟩ : Ob) (.slice none 0 0) (.slice none 0 0) (.slice none 0 0)).cells (objV (⟨0, [], [], (fun _ => 0), [], (⟨0, (fun _ => 0)⟩ : Lnk), ⟨#[]⟩⟩ : Ob) (.slice none 0 0) (.slice none 0 0) (.slice none 0 0)).cells ((b12, .cells (objV (⟨0, [], [], (fun _ => 0), [], (⟨0, (fun _ => 0)⟩ : Lnk), ⟨#[]⟩⟩ : Ob) (.slice none 0 0) (.slice none 0 0) (.slice none 0 0)).cells 48 (0, 0)) :: (0, .cells (wfV 8 (s8f shaB)).cells 107 (0, 0)) :: (1, .cells (wfV 64 (gtf shaK)).cells 217 (0, 0)) :: HX) rfl Tryz.sizeOf48 trivial rfl rfl rfl (objV_one _ _ _ _ rfl rfl rfl) rfl rfl rfl rfl (.inl hb12) ?_
        refine TE_q rfl rfl (RD.assign rfl) rfl ?_
        refine TE_nil0 ?_
        refine pn_seq ?_
        refine pn_seq ?_
        refine pn_plain [] rfl ?_
        refine TE_q rfl rfl (RD.move rfl) rfl ?_
        refine TE_q rfl rfl (RD.as (v := .bool true) (RD.neq rfl rfl) rfl) rfl ?_
        refine TE_nil0 ?_
        refine pn_condT rfl ?_
        refine pn_seq ?_
        refine pn_plainG [] ((0, .cells (wfV 8 (s8f shaB)).cells 107 (0, 0)) :: (1, .cells (wfV 64 (gtf shaK)).cells 217 (0, 0)) :: HX) rfl (fun a => by simp -failIfUnchanged <;> omega) ?_
        refine TE_q rfl rfl (RD.move rfl) rfl ?_
        refine TE_q rfl rfl (RD.move rfl) rfl ?_
        refine TE_gq rfl rfl rfl rfl (RD.move rfl) rfl ?_
        refine TE_gq rfl rfl rfl rfl (RD.as (v := .bool true) (RD.eql rfl rfl) rfl) rfl ?_
        refine TE_q rfl rfl (RD.pickT rfl rfl) rfl ?_
        refine TE_q rfl rfl (RD.move rfl) rfl ?_
        refine TE_gq rfl rfl rfl rfl (RD.move rfl) rfl ?_
        refine TE_callG _ ((0, .cells (wfV 8 (s8f shaB)).cells 107 (0, 0)) :: (1, .cells (wfV 64 (gtf shaK)).cells 217 (0, 0)) :: HX) rfl rfl ⟨_, rfl, rfl⟩ Tryz.call23 rfl rfl rfl (fun w hw => c_obKind bv b ((0, .cells (wfV 8 (s8f shaB)).cells 107 (0, 0)) :: (1, .cells (wfV 64 (gtf shaK)).cells 217 (0, 0)) :: HX) w (hbb.mono (fun _ hw => hw.sp (fun a => by simp -failIfUnchanged <;> omega))) (by first | assumption | omega | (simp; done) | (simp; omega)) (hw.sp (fun a => by simp -failIfUnchanged <;> omega))) (fun a => by simp -failIfUnchanged <;> omega) ?_
        rintro v98 H99 ⟨rfl, rfl⟩ -
        refine TE_gq rfl rfl rfl rfl (RD.eql rfl rfl) rfl ?_
        refine TE_q rfl rfl (RD.pickT rfl rfl) rfl ?_
        refine TE_q rfl rfl (RD.assign rfl) rfl ?_
        refine TE_nil0 ?_
        refine pn_ret ?_
        exact pn_doneS [] rfl rfl ⟨(congrArg Value.bool (by rw [kindM_none hpm74]; rfl)), rfl⟩ (fun _ => Nat.zero_le _) (fun _ he => nomatch he)

end Go.Proofs.YtloljpefdecmhaaGreatDoor
