import Derived.Test.YtjdjlcmajeikcaaObp
namespace Go.Proofs.Ytjdjlcmajeikcaa
open Go Go.Mv
set_option maxRecDepth 8000
attribute [simp] entsL_len parsL_len
def pf (P : List Lnk) : List (Nat → Int) → List Lnk
  | [] => P
  | p :: l => pf (P ++ [⟨3, p⟩]) l
@[simp] theorem pf_nil (P : List Lnk) : pf P [] = P := rfl
theorem pf_eq : ∀ (P : List Lnk) (l : List (Nat → Int)), pf P l = P ++ parsL l
  | P, [] => by simp
  | P, p :: l => by rw [pf, pf_eq]; simp [parsL]
@[simp] theorem pf_len (P : List Lnk) (l : List (Nat → Int)) : (pf P l).length = P.length + l.length := by rw [pf_eq]; simp
theorem pf_next {P : List Lnk} {l : List (Nat → Int)} {i : Nat} (hi : i < l.length) : pf P (l.take i) ++ [⟨3, gt l i⟩] = pf P (l.take (i + 1)) := by
  rw [take_succ_of (gt_some hi), pf_eq, pf_eq]; simp [parsL]
theorem obSame_F {x y : Ob} (h : ¬ x.k = y.k ∨ ¬ (⟨x.data.toArray⟩ : ByteArray) = ⟨y.data.toArray⟩ ∨ ¬ (x.ents.length : Int) = (y.ents.length : Int) ∨ sameN 32 x.t y.t = false ∨ same_lnk x.tg y.tg = false ∨ ¬ x.m = y.m) : false = obSame x y := by
  rw [ba_eq] at h
  rcases h with h | h | h | h | h | h
  · simp [obSame, h]
  · simp [obSame, h]
  · rw [obSame, sameG_len (by omega)]; simp
  · simp [obSame, h]
  · simp [obSame, h]
  · simp [obSame, h]
theorem obSame_F2 {x y : Ob} {i : Nat} (h1 : i < x.ents.length) (h2 : i < y.ents.length) (h : same_ent (gt x.ents i) (gt y.ents i) = false) : false = obSame x y := by
  rw [obSame, sameG_F h1 h2 h]; simp
theorem obSame_T {x y : Ob} (h : x.k = y.k ∧ (⟨x.data.toArray⟩ : ByteArray) = ⟨y.data.toArray⟩ ∧ (x.ents.length : Int) = (y.ents.length : Int) ∧ sameN 32 x.t y.t = true ∧ same_lnk x.tg y.tg = true ∧ x.m = y.m) (he : ∀ j, j < x.ents.length → same_ent (gt x.ents j) (gt y.ents j) = true) : sameIL x.pars y.pars = obSame x y := by
  obtain ⟨h1, h2, h3, h4, h5, h6⟩ := h
  rw [ba_eq] at h2
  rw [obSame, sameG_T (by omega) he]
  simp [h1, h2, h4, h5, h6]

theorem c_obLinks (x : Ob) (xd : Value) (xe : Value) (xp : Value) (HX : Mem) (w : World) (hbxd : Rdb HX xd x.data) (hbxe : Rdx 34 (entC) HX xe x.ents) (hbxp : Rdx 32 (idC) HX xp x.pars) (hox : ObOk x) (hH : Hp HX w) : Calls Try.prog 7 #[objV x xd xe xp] w (Ret w [] fun v H1 => ∃ st, BldOk 33 (lnkC) (linksL x) st ∧ v = bldVx (linksL x) st ∧ H1 = bldMx 28 (lnkC) (linksL x) st) := by
  have hw1 := hox.d; have hw2 := hox.e; have hw3 := hox.p; have hw4 := hox.m; have hwe := hox.en
  refine fn_enter (args := [_]) Try.func7 rfl Try.ntmps7 rfl hH ?_
  refine pn_seq ?_
  refine pn_plain [] rfl ?_
  refine TE_boxC (objV x xd xe xp).cells rfl rfl rfl trivial rfl fun b1 hb1 => ?_
  refine TE_q rfl rfl (RD.assign rfl) rfl ?_
  refine TE_nil0 ?_
  refine pn_seq ?_
  refine pn_seq ?_
  refine pn_plain [] rfl ?_
  refine TE_l rfl rfl trivial rfl (RD.loadA (i := 0) Try.isAgg30 Try.sizeOf30 rfl rfl (Nat.le_of_ble_eq_true rfl) (obj_all _ _ _ _)) rfl ?_
  refine TE_callG _ HX rfl rfl trivial Try.call14 rfl rfl rfl (fun w hw => c_obCheck x xd xe xp HX w (hbxd.mono (fun _ hw => hw.sp (fun a => by simp -failIfUnchanged <;> omega))) (hbxe.mono (fun _ hw => hw.sp (fun a => by simp -failIfUnchanged <;> omega))) (hbxp.mono (fun _ hw => hw.sp (fun a => by simp -failIfUnchanged <;> omega))) hox (hw.sp (fun a => by simp -failIfUnchanged <;> omega))) (fun a => by simp -failIfUnchanged <;> omega) ?_
  rintro v1 H2 ⟨rfl, rfl⟩ -
  refine TE_q rfl rfl (RD.neq rfl rfl) rfl ?_
  refine TE_nil0 ?_
  refine pn_condN rfl (fun hc3 => ?_) (fun hc3 => ?_)
  · refine pn_seq ?_
    refine pn_plainG [] [] rfl (fun a => by simp -failIfUnchanged <;> omega) ?_
    refine TE_q rfl rfl (RD.assign rfl) rfl ?_
    refine TE_nil0 ?_
    refine pn_ret ?_
    exact pn_doneS [] rfl rfl ⟨none, (show linksL x = [] from (by simp [linksL, err1 hc3])), rfl, rfl⟩ (fun _ => Nat.zero_le _) (fun _ he => nomatch he)
  · refine pn_skip ?_
    refine pn_seq ?_
    refine pn_plain [] rfl ?_
    refine TE_l rfl rfl trivial rfl (RD.loadA (i := 0) Try.isAgg30 Try.sizeOf30 rfl rfl (Nat.le_of_ble_eq_true rfl) (obj_all _ _ _ _)) rfl ?_
    refine TE_callG _ HX rfl rfl trivial Try.call16 rfl rfl rfl (fun w hw => c_of7 x xd xe xp HX w (hbxd.mono (fun _ hw => hw.sp (fun a => by simp -failIfUnchanged <;> omega))) (hbxe.mono (fun _ hw => hw.sp (fun a => by simp -failIfUnchanged <;> omega))) (hbxp.mono (fun _ hw => hw.sp (fun a => by simp -failIfUnchanged <;> omega))) hox (hw.sp (fun a => by simp -failIfUnchanged <;> omega))) (fun a => by simp -failIfUnchanged <;> omega) ?_
    rintro v12 H13 (⟨hk4, rfl, rfl⟩ | ⟨hk5, rfl, rfl⟩ | ⟨hk6, rfl, rfl⟩ | ⟨hk7, rfl, rfl⟩ | ⟨⟨⟨⟨hk8, hk9⟩, hk10⟩, hk11⟩, rfl, rfl⟩) hX14
    · refine TE_q rfl rfl (RD.move rfl) rfl ?_
      refine TE_q rfl rfl (RD.extract rfl rfl) rfl ?_
      refine TE_q rfl rfl (RD.extract rfl rfl) rfl ?_
      refine TE_q rfl rfl (RD.assign rfl) rfl ?_
      refine TE_q rfl rfl (RD.assign rfl) rfl ?_
      refine TE_nil0 ?_
      refine pn_seq ?_
      refine pn_plainG [] HX rfl (fun a => by simp -failIfUnchanged <;> omega) ?_
      refine TE_q rfl rfl (RD.move rfl) rfl ?_
      refine TE_invM _ [] HX HX inv_blob_links rfl rfl trivial rfl rfl rfl own0 (fun a => by simp -failIfUnchanged <;> omega) (fun w hw => c_blobLinks x xd xe xp HX w (hbxd.mono (fun _ hw => hw.sp (fun a => by simp -failIfUnchanged <;> omega))) (hbxe.mono (fun _ hw => hw.sp (fun a => by simp -failIfUnchanged <;> omega))) (hbxp.mono (fun _ hw => hw.sp (fun a => by simp -failIfUnchanged <;> omega))) hox (hw.sp (fun a => by simp -failIfUnchanged <;> omega))) (fun a => by simp -failIfUnchanged <;> omega) ?_
      rintro v19 H20 ⟨st15, hbo16, rfl, rfl⟩ hX17
      have hRD18 : Rdx 33 (lnkC) (bldMx 28 (lnkC) ([] : List Lnk) st15) (bldVx ([] : List Lnk) st15) ([] : List Lnk) := hbo16.rdx (u := 28) lnkC_len
      refine TE_sp ((bldMx 28 (lnkC) ([] : List Lnk) st15) ++ HX) (fun a => by simp -failIfUnchanged <;> omega) ?_
      refine TE_q rfl rfl (RD.assign rfl) rfl ?_
      refine TE_nil0 ?_
      refine pn_ret ?_
      have he21 : ([] : List Lnk) = linksL x := (by simp [linksL, lnksL, err0 hc3, hk4, entsL, parsL])
      exact pn_doneS (bldMx 28 (lnkC) ([] : List Lnk) st15) rfl rfl ⟨st15, (by rw [← he21]; exact hbo16), (by rw [← he21]; rfl), (by rw [← he21])⟩ (fun a => by simp -failIfUnchanged <;> omega) hX17
    · refine TE_q rfl rfl (RD.move rfl) rfl ?_
      refine TE_q rfl rfl (RD.extract rfl rfl) rfl ?_
      refine TE_q rfl rfl (RD.extract rfl rfl) rfl ?_
      refine TE_q rfl rfl (RD.assign rfl) rfl ?_
      refine TE_q rfl rfl (RD.assign rfl) rfl ?_
      refine TE_nil0 ?_
      refine pn_seq ?_
      refine pn_plainG [] HX rfl (fun a => by simp -failIfUnchanged <;> omega) ?_
      refine TE_q rfl rfl (RD.move rfl) rfl ?_
      refine TE_invM _ [] HX HX inv_tree_links rfl rfl trivial rfl rfl rfl own0 (fun a => by simp -failIfUnchanged <;> omega) (fun w hw => c_treeLinks x xd xe xp HX w (hbxd.mono (fun _ hw => hw.sp (fun a => by simp -failIfUnchanged <;> omega))) (hbxe.mono (fun _ hw => hw.sp (fun a => by simp -failIfUnchanged <;> omega))) (hbxp.mono (fun _ hw => hw.sp (fun a => by simp -failIfUnchanged <;> omega))) hox (hw.sp (fun a => by simp -failIfUnchanged <;> omega))) (fun a => by simp -failIfUnchanged <;> omega) ?_
      rintro v26 H27 ⟨st22, hbo23, rfl, rfl⟩ hX24
      have hRD25 : Rdx 33 (lnkC) (bldMx 28 (lnkC) (entsL x.ents) st22) (bldVx (entsL x.ents) st22) (entsL x.ents) := hbo23.rdx (u := 28) lnkC_len
      refine TE_sp ((bldMx 28 (lnkC) (entsL x.ents) st22) ++ HX) (fun a => by simp -failIfUnchanged <;> omega) ?_
      refine TE_q rfl rfl (RD.assign rfl) rfl ?_
      refine TE_nil0 ?_
      refine pn_ret ?_
      have he28 : (entsL x.ents) = linksL x := (by simp [linksL, lnksL, err0 hc3, hk5, entsL, parsL])
      exact pn_doneS (bldMx 28 (lnkC) (entsL x.ents) st22) rfl rfl ⟨st22, (by rw [← he28]; exact hbo23), (by rw [← he28]; rfl), (by rw [← he28])⟩ (fun a => by simp -failIfUnchanged <;> omega) hX24
    · refine TE_q rfl rfl (RD.move rfl) rfl ?_
      refine TE_q rfl rfl (RD.extract rfl rfl) rfl ?_
      refine TE_q rfl rfl (RD.extract rfl rfl) rfl ?_
      refine TE_q rfl rfl (RD.assign rfl) rfl ?_
      refine TE_q rfl rfl (RD.assign rfl) rfl ?_
      refine TE_nil0 ?_
      refine pn_seq ?_
      refine pn_plainG [] HX rfl (fun a => by simp -failIfUnchanged <;> omega) ?_
      refine TE_q rfl rfl (RD.move rfl) rfl ?_
      refine TE_invM _ [] HX HX inv_commit_links rfl rfl trivial rfl rfl rfl own0 (fun a => by simp -failIfUnchanged <;> omega) (fun w hw => c_commitLinks x xd xe xp HX w (hbxd.mono (fun _ hw => hw.sp (fun a => by simp -failIfUnchanged <;> omega))) (hbxe.mono (fun _ hw => hw.sp (fun a => by simp -failIfUnchanged <;> omega))) (hbxp.mono (fun _ hw => hw.sp (fun a => by simp -failIfUnchanged <;> omega))) hox (hw.sp (fun a => by simp -failIfUnchanged <;> omega))) (fun a => by simp -failIfUnchanged <;> omega) ?_
      rintro v33 H34 ⟨st29, hbo30, rfl, rfl⟩ hX31
      have hRD32 : Rdx 33 (lnkC) (bldMx 28 (lnkC) ((⟨2, x.t⟩ : Lnk) :: parsL x.pars) st29) (bldVx ((⟨2, x.t⟩ : Lnk) :: parsL x.pars) st29) ((⟨2, x.t⟩ : Lnk) :: parsL x.pars) := hbo30.rdx (u := 28) lnkC_len
      refine TE_sp ((bldMx 28 (lnkC) ((⟨2, x.t⟩ : Lnk) :: parsL x.pars) st29) ++ HX) (fun a => by simp -failIfUnchanged <;> omega) ?_
      refine TE_q rfl rfl (RD.assign rfl) rfl ?_
      refine TE_nil0 ?_
      refine pn_ret ?_
      have he35 : ((⟨2, x.t⟩ : Lnk) :: parsL x.pars) = linksL x := (by simp [linksL, lnksL, err0 hc3, hk6, entsL, parsL])
      exact pn_doneS (bldMx 28 (lnkC) ((⟨2, x.t⟩ : Lnk) :: parsL x.pars) st29) rfl rfl ⟨st29, (by rw [← he35]; exact hbo30), (by rw [← he35]; rfl), (by rw [← he35])⟩ (fun a => by simp -failIfUnchanged <;> omega) hX31
    · refine TE_q rfl rfl (RD.move rfl) rfl ?_
      refine TE_q rfl rfl (RD.extract rfl rfl) rfl ?_
      refine TE_q rfl rfl (RD.extract rfl rfl) rfl ?_
      refine TE_q rfl rfl (RD.assign rfl) rfl ?_
      refine TE_q rfl rfl (RD.assign rfl) rfl ?_
      refine TE_nil0 ?_
      refine pn_seq ?_
      refine pn_plainG [] HX rfl (fun a => by simp -failIfUnchanged <;> omega) ?_
      refine TE_q rfl rfl (RD.move rfl) rfl ?_
      refine TE_invM _ [] HX HX inv_tag_links rfl rfl trivial rfl rfl rfl own0 (fun a => by simp -failIfUnchanged <;> omega) (fun w hw => c_tagLinks x xd xe xp HX w (hbxd.mono (fun _ hw => hw.sp (fun a => by simp -failIfUnchanged <;> omega))) (hbxe.mono (fun _ hw => hw.sp (fun a => by simp -failIfUnchanged <;> omega))) (hbxp.mono (fun _ hw => hw.sp (fun a => by simp -failIfUnchanged <;> omega))) hox (hw.sp (fun a => by simp -failIfUnchanged <;> omega))) (fun a => by simp -failIfUnchanged <;> omega) ?_
      rintro v40 H41 ⟨st36, hbo37, rfl, rfl⟩ hX38
      have hRD39 : Rdx 33 (lnkC) (bldMx 28 (lnkC) [x.tg] st36) (bldVx [x.tg] st36) [x.tg] := hbo37.rdx (u := 28) lnkC_len
      refine TE_sp ((bldMx 28 (lnkC) [x.tg] st36) ++ HX) (fun a => by simp -failIfUnchanged <;> omega) ?_
      refine TE_q rfl rfl (RD.assign rfl) rfl ?_
      refine TE_nil0 ?_
      refine pn_ret ?_
      have he42 : [x.tg] = linksL x := (by simp [linksL, lnksL, err0 hc3, hk7, entsL, parsL])
      exact pn_doneS (bldMx 28 (lnkC) [x.tg] st36) rfl rfl ⟨st36, (by rw [← he42]; exact hbo37), (by rw [← he42]; rfl), (by rw [← he42])⟩ (fun a => by simp -failIfUnchanged <;> omega) hX38
    · exact absurd ((chk0 hk8 hk9 hk10 hk11).symm.trans (err0 hc3)) (by decide)

theorem c_r7Links (x : Ob) (xd : Value) (xe : Value) (xp : Value) (HX : Mem) (w : World) (hbxd : Rdb HX xd x.data) (hbxe : Rdx 34 (entC) HX xe x.ents) (hbxp : Rdx 32 (idC) HX xp x.pars) (hox : ObOk x) (hH : Hp HX w) : Calls Try.prog 9 #[objV x xd xe xp] w (Ret w [] fun v H1 => ∃ st, BldOk 33 (lnkC) (rLinks x) st ∧ v = bldVx (rLinks x) st ∧ H1 = bldMx 28 (lnkC) (rLinks x) st) := by
  have hw1 := hox.d; have hw2 := hox.e; have hw3 := hox.p; have hw4 := hox.m; have hwe := hox.en
  refine fn_enter (args := [_]) Try.func9 rfl Try.ntmps9 rfl hH ?_
  refine pn_seq ?_
  refine pn_plain [] rfl ?_
  refine TE_boxC (objV x xd xe xp).cells rfl rfl rfl trivial rfl fun b1 hb1 => ?_
  refine TE_q rfl rfl (RD.assign rfl) rfl ?_
  refine TE_nil0 ?_
  refine pn_seq ?_
  refine pn_seq ?_
  refine pn_plain [] rfl ?_
  refine TE_l rfl rfl trivial rfl (RD.loadA (i := 0) Try.isAgg30 Try.sizeOf30 rfl rfl (Nat.le_of_ble_eq_true rfl) (obj_all _ _ _ _)) rfl ?_
  refine TE_callG _ HX rfl rfl trivial Try.call17 rfl rfl rfl (fun w hw => c_r7Check x xd xe xp HX w (hbxd.mono (fun _ hw => hw.sp (fun a => by simp -failIfUnchanged <;> omega))) (hbxe.mono (fun _ hw => hw.sp (fun a => by simp -failIfUnchanged <;> omega))) (hbxp.mono (fun _ hw => hw.sp (fun a => by simp -failIfUnchanged <;> omega))) hox (hw.sp (fun a => by simp -failIfUnchanged <;> omega))) (fun a => by simp -failIfUnchanged <;> omega) ?_
  rintro v1 H2 ⟨rfl, rfl⟩ -
  refine TE_q rfl rfl (RD.neq rfl rfl) rfl ?_
  refine TE_nil0 ?_
  refine pn_condN rfl (fun hc3 => ?_) (fun hc3 => ?_)
  · refine pn_seq ?_
    refine pn_plainG [] [] rfl (fun a => by simp -failIfUnchanged <;> omega) ?_
    refine TE_q rfl rfl (RD.assign rfl) rfl ?_
    refine TE_nil0 ?_
    refine pn_ret ?_
    exact pn_doneS [] rfl rfl ⟨none, (show rLinks x = [] from (by simp [rLinks, err1 hc3])), rfl, rfl⟩ (fun _ => Nat.zero_le _) (fun _ he => nomatch he)
  · refine pn_skip ?_
    refine pn_seq ?_
    refine pn_plain [] rfl ?_
    refine TE_q rfl rfl (RD.assign rfl) rfl ?_
    refine TE_nil0 ?_
    refine pn_seq ?_
    refine pn_seq ?_
    refine pn_plain [] rfl ?_
    refine TE_q rfl rfl (RD.assign rfl) rfl ?_
    refine TE_nil0 ?_
    refine pn_block ?_
    refine pn_loopS (σ := Nat × SnkS) (fun q => [(1, .pointer (some ⟨b1, 0, none⟩)), (3, bldVx (entsL (x.ents.take q.1)) q.2), (4, .int .i64 (q.1 : Int))]) (fun q => ((b1, .cells (objV x xd xe xp).cells 30 (0, 0)) :: ((bldMx 28 (lnkC) (entsL (x.ents.take q.1)) q.2) ++ HX))) (fun q => (q.1 ≤ x.ents.length) ∧ (BldOk 33 (lnkC) (entsL (x.ents.take q.1)) q.2) ∧ (∀ e ∈ bldMx 28 (lnkC) (entsL (x.ents.take q.1)) q.2, w.heap.size ≤ e.1 ∨ e.1 ∈ [])) (fun q => x.ents.length - q.1) (0, none) ⟨(by omega), BldOk.nil, (by intro e he; cases he)⟩ ⟨rfl, rfl, rfl, trivial⟩ (fun a => by simp -failIfUnchanged <;> omega) ?_
    rintro ⟨i, st⟩ ⟨hi, hbost, hXst⟩
    dsimp only at hi hbost hXst ⊢
    have hRst : Rdx 33 (lnkC) (bldMx 28 (lnkC) (entsL (x.ents.take i)) st) (bldVx (entsL (x.ents.take i)) st) (entsL (x.ents.take i)) := hbost.rdx (u := 28) lnkC_len
    refine pn_seq ?_
    refine pn_seq ?_
    refine pn_plain [3] rfl ?_
    refine TE_q rfl rfl (RD.move rfl) rfl ?_
    refine TE_q rfl rfl (RD.fieldAddr (o := 2) Try.runUnderlying30 rfl rfl Try.sizeOf23 rfl) rfl ?_
    refine TE_l rfl rfl trivial rfl (RD.load (i := 0) (v := xe) Try.isAgg23 rfl rfl rfl) rfl ?_
    refine TE_q rfl rfl (RD.lenX Try.runUnderlying23 rfl hbxe) rfl ?_
    refine TE_q rfl rfl (RD.lss rfl rfl) rfl ?_
    refine TE_nil0 ?_
    refine pn_condD rfl (fun hc4 => ?_) (fun hc4 => ?_)
    · refine pn_skip ?_
      refine pn_seq ?_
      refine pn_block ?_
      refine pn_drawG [2, 6, 8, 12] (bldMx 28 (lnkC) (entsL (x.ents.take i)) st) ((b1, .cells (objV x xd xe xp).cells 30 (0, 0)) :: HX) rfl rfl (by kernel_rfl) (fun a => by simp -failIfUnchanged <;> omega) ?_
      refine TE_q rfl rfl (RD.move rfl) rfl ?_
      refine TE_q rfl rfl (RD.fieldAddr (o := 2) Try.runUnderlying30 rfl rfl Try.sizeOf23 rfl) rfl ?_
      refine TE_q rfl rfl (RD.load (i := 0) (v := xe) Try.isAgg23 rfl rfl rfl) rfl ?_
      refine TE_q rfl rfl (RD.move rfl) rfl ?_
      refine TE_q rfl rfl (RD.idxR (i := i) (o := (i * 34 + 0)) Try.runUnderlying23 Try.sizeOf38 rfl hbxe rfl rfl (by omega) (by rfl)) rfl ?_
      refine TE_q rfl rfl (RD.fldR (i := i) (o' := (i * 34 + 1)) Try.runUnderlying38 rfl (by rfl) Try.sizeOf3 rfl hbxe (by omega)) rfl ?_
      refine TE_q rfl rfl (RD.ldR (i := i) (j := 1) (u := .int .i64 ((gt x.ents i).k)) Try.isAgg3 rfl hbxe (gt_some (by omega)) (by rfl) rfl (fun _ hw => hw.sp (fun a => by simp -failIfUnchanged <;> omega))) rfl ?_
      refine TE_q rfl rfl (RD.fieldAddr (o := 2) Try.runUnderlying30 rfl rfl Try.sizeOf23 rfl) rfl ?_
      refine TE_q rfl rfl (RD.load (i := 0) (v := xe) Try.isAgg23 rfl rfl rfl) rfl ?_
      refine TE_q rfl rfl (RD.move rfl) rfl ?_
      refine TE_q rfl rfl (RD.idxR (i := i) (o := (i * 34 + 0)) Try.runUnderlying23 Try.sizeOf38 rfl hbxe rfl rfl (by omega) (by rfl)) rfl ?_
      refine TE_q rfl rfl (RD.fldR (i := i) (o' := (i * 34 + 2)) Try.runUnderlying38 rfl (by rfl) Try.sizeOf25 rfl hbxe (by omega)) rfl ?_
      refine TE_q rfl rfl (RD.ldRA (i := i) (j := 2) (vs := (idC ((gt x.ents i).id))) Try.isAgg25 Try.sizeOf25 rfl hbxe (gt_some (by omega)) (by rfl) rfl (fun _ _ hu => entC_id hu) (idC_agg _) (fun _ hw => hw.sp (fun a => by simp -failIfUnchanged <;> omega))) rfl ?_
      refine TE_q rfl rfl (RD.build (v := lnkV (⟨(gt x.ents i).k, (gt x.ents i).id⟩ : Lnk)) rfl (fun w => by simp [Instr.build, Try.zeroValue28, Try.runUnderlying28, Try.sizeOf25, Try.sizeOf3, Value.cells, Instr.fill, lnkV, idV])) rfl ?_
      refine TE_buildSlice (cells := (cat lnkC [(⟨(gt x.ents i).k, (gt x.ents i).id⟩ : Lnk)] ++ []).toArray) rfl Try.runUnderlying33 Try.sizeOf28 Try.zeroValue28 rfl rfl rfl (by kernel_rfl) trivial rfl fun b30 hb30 => ?_
      refine TE_sp ((bldMx 28 (lnkC) (entsL (x.ents.take i)) st) ++ [(b30, .cells (cat lnkC [(⟨(gt x.ents i).k, (gt x.ents i).id⟩ : Lnk)] ++ []).toArray 28 (0, 0))]) (fun a => by simp -failIfUnchanged <;> omega) ?_
      refine TE_appendX (st := st) (l := (entsL (x.ents.take i))) (ys := [(⟨(gt x.ents i).k, (gt x.ents i).id⟩ : Lnk)]) [(b30, .cells (cat lnkC [(⟨(gt x.ents i).k, (gt x.ents i).id⟩ : Lnk)] ++ []).toArray 28 (0, 0))] lnkC_len lnkC_one rfl rfl rfl rfl trivial rfl Try.underlying33 el_lnk rfl rfl rfl hbost (Rdx.blk (enc := lnkC) (H := [(b30, .cells (cat lnkC [(⟨(gt x.ents i).k, (gt x.ents i).id⟩ : Lnk)] ++ []).toArray 28 (0, 0))]) (xs := [(⟨(gt x.ents i).k, (gt x.ents i).id⟩ : Lnk)]) (n := 1) (i := 0) (tl := []) (c := 1) lnkC_len rfl rfl (Nat.le_refl _)) (fun _ hw => hw.sp (fun a => by simp -failIfUnchanged <;> omega)) (by simp; omega) rfl hXst ?_
      intro st5 hbo6 hX7 _
      have hR9 : Rdx 33 (lnkC) (bldMx 28 (lnkC) ((entsL (x.ents.take i)) ++ [(⟨(gt x.ents i).k, (gt x.ents i).id⟩ : Lnk)]) st5) (bldVx ((entsL (x.ents.take i)) ++ [(⟨(gt x.ents i).k, (gt x.ents i).id⟩ : Lnk)]) st5) ((entsL (x.ents.take i)) ++ [(⟨(gt x.ents i).k, (gt x.ents i).id⟩ : Lnk)]) := hbo6.rdx (u := 28) lnkC_len
      refine TE_sp ((b30, .cells (cat lnkC [(⟨(gt x.ents i).k, (gt x.ents i).id⟩ : Lnk)] ++ []).toArray 28 (0, 0)) :: (bldMx 28 (lnkC) ((entsL (x.ents.take i)) ++ [(⟨(gt x.ents i).k, (gt x.ents i).id⟩ : Lnk)]) st5)) (fun a => by simp -failIfUnchanged <;> omega) ?_
      refine TE_q rfl rfl (RD.assign rfl) rfl ?_
      refine TE_nil ?_
      refine pn_plainG [] ((b1, .cells (objV x xd xe xp).cells 30 (0, 0)) :: ((bldMx 28 (lnkC) ((entsL (x.ents.take i)) ++ [(⟨(gt x.ents i).k, (gt x.ents i).id⟩ : Lnk)]) st5) ++ HX)) rfl (fun a => by simp -failIfUnchanged <;> omega) ?_
      refine TE_q rfl rfl (RD.move rfl) rfl ?_
      refine TE_q rfl rfl (RD.addI rfl rfl (by omega) (by omega)) rfl ?_
      refine TE_q rfl rfl (RD.assign rfl) rfl ?_
      refine TE_nil0 ?_
      have he10 : ((entsL (x.ents.take i)) ++ [(⟨(gt x.ents i).k, (gt x.ents i).id⟩ : Lnk)]) = (entsL (x.ents.take (i + 1))) := (entsL_next (by omega))
      exact pn_againS ((i + 1), st5) ⟨(by omega), (by rw [← he10]; exact hbo6), (by rw [← he10]; exact hX7)⟩ (by dsimp only; omega) ⟨rfl, (congrArg (fun l => some (bldVx l st5)) he10), rfl, trivial⟩ (fun a => by (try simp only [← he10]); simp -failIfUnchanged <;> omega)
    · refine pn_exit ?_
      refine pn_seq ?_
      refine pn_seq ?_
      refine pn_plain [] rfl ?_
      refine TE_q rfl rfl (RD.fieldAddr (o := 0) Try.runUnderlying30 rfl rfl Try.sizeOf3 rfl) rfl ?_
      refine TE_l rfl rfl trivial rfl (RD.load (i := 0) (v := .int .i64 x.k) Try.isAgg3 rfl rfl rfl) rfl ?_
      refine TE_q rfl rfl (RD.eql rfl rfl) rfl ?_
      refine TE_nil0 ?_
      refine pn_condD rfl (fun hc11 => ?_) (fun hc11 => ?_)
      · refine pn_plain [] rfl ?_
        refine TE_q rfl rfl (RD.move rfl) rfl ?_
        refine TE_q rfl rfl (RD.fieldAddr (o := 3) Try.runUnderlying30 rfl rfl Try.sizeOf25 rfl) rfl ?_
        refine TE_l rfl rfl trivial rfl (RD.loadA (i := 0) (v := idV x.t) Try.isAgg25 Try.sizeOf25 rfl rfl (Nat.le_of_ble_eq_true rfl) (obj_t _ _ _ _)) rfl ?_
        refine TE_q rfl rfl (RD.build (v := lnkV (⟨2, x.t⟩ : Lnk)) rfl (fun w => by simp [Instr.build, Try.zeroValue28, Try.runUnderlying28, Try.sizeOf25, Try.sizeOf3, Value.cells, Instr.fill, lnkV, idV])) rfl ?_
        refine TE_buildSlice (cells := (cat lnkC [(⟨2, x.t⟩ : Lnk)] ++ []).toArray) rfl Try.runUnderlying33 Try.sizeOf28 Try.zeroValue28 rfl rfl rfl (by kernel_rfl) trivial rfl fun b39 hb39 => ?_
        refine TE_sp ((bldMx 28 (lnkC) (entsL (x.ents.take i)) st) ++ ((b39, .cells (cat lnkC [(⟨2, x.t⟩ : Lnk)] ++ []).toArray 28 (0, 0)) :: (b1, .cells (objV x xd xe xp).cells 30 (0, 0)) :: HX)) (fun a => by simp -failIfUnchanged <;> omega) ?_
        refine TE_appendX (st := st) (l := (entsL (x.ents.take i))) (ys := [(⟨2, x.t⟩ : Lnk)]) ((b39, .cells (cat lnkC [(⟨2, x.t⟩ : Lnk)] ++ []).toArray 28 (0, 0)) :: (b1, .cells (objV x xd xe xp).cells 30 (0, 0)) :: HX) lnkC_len lnkC_one rfl rfl rfl rfl trivial rfl Try.underlying33 el_lnk rfl rfl rfl hbost (Rdx.blk (enc := lnkC) (H := [(b39, .cells (cat lnkC [(⟨2, x.t⟩ : Lnk)] ++ []).toArray 28 (0, 0))]) (xs := [(⟨2, x.t⟩ : Lnk)]) (n := 1) (i := 0) (tl := []) (c := 1) lnkC_len rfl rfl (Nat.le_refl _)) (fun _ hw => hw.sp (fun a => by simp -failIfUnchanged <;> omega)) (by simp; omega) rfl hXst ?_
        intro st12 hbo13 hX14 _
        have hR16 : Rdx 33 (lnkC) (bldMx 28 (lnkC) ((entsL (x.ents.take i)) ++ [(⟨2, x.t⟩ : Lnk)]) st12) (bldVx ((entsL (x.ents.take i)) ++ [(⟨2, x.t⟩ : Lnk)]) st12) ((entsL (x.ents.take i)) ++ [(⟨2, x.t⟩ : Lnk)]) := hbo13.rdx (u := 28) lnkC_len
        refine TE_sp ((b39, .cells (cat lnkC [(⟨2, x.t⟩ : Lnk)] ++ []).toArray 28 (0, 0)) :: (b1, .cells (objV x xd xe xp).cells 30 (0, 0)) :: ((bldMx 28 (lnkC) ((entsL (x.ents.take i)) ++ [(⟨2, x.t⟩ : Lnk)]) st12) ++ HX)) (fun a => by simp -failIfUnchanged <;> omega) ?_
        refine TE_q rfl rfl (RD.assign rfl) rfl ?_
        refine TE_nil0 ?_
        refine pn_seq ?_
        refine pn_seq ?_
        refine pn_plainG [] ((b1, .cells (objV x xd xe xp).cells 30 (0, 0)) :: ((bldMx 28 (lnkC) ((entsL (x.ents.take i)) ++ [(⟨2, x.t⟩ : Lnk)]) st12) ++ HX)) rfl (fun a => by simp -failIfUnchanged <;> omega) ?_
        refine TE_q rfl rfl (RD.assign rfl) rfl ?_
        refine TE_nil0 ?_
        refine pn_block ?_
        refine pn_loopS (σ := Nat × SnkS) (fun q => [(1, .pointer (some ⟨b1, 0, none⟩)), (3, bldVx (pf ((entsL (x.ents.take i)) ++ [(⟨2, x.t⟩ : Lnk)]) (x.pars.take q.1)) q.2), (5, .int .i64 (q.1 : Int))]) (fun q => ((b1, .cells (objV x xd xe xp).cells 30 (0, 0)) :: ((bldMx 28 (lnkC) (pf ((entsL (x.ents.take i)) ++ [(⟨2, x.t⟩ : Lnk)]) (x.pars.take q.1)) q.2) ++ HX))) (fun q => (q.1 ≤ x.pars.length) ∧ (BldOk 33 (lnkC) (pf ((entsL (x.ents.take i)) ++ [(⟨2, x.t⟩ : Lnk)]) (x.pars.take q.1)) q.2) ∧ (∀ e ∈ bldMx 28 (lnkC) (pf ((entsL (x.ents.take i)) ++ [(⟨2, x.t⟩ : Lnk)]) (x.pars.take q.1)) q.2, w.heap.size ≤ e.1 ∨ e.1 ∈ [])) (fun q => x.pars.length - q.1) (0, st12) ⟨(by omega), hbo13, hX14⟩ ⟨rfl, rfl, rfl, trivial⟩ (fun a => by simp -failIfUnchanged <;> omega) ?_
        rintro ⟨i1, st21⟩ ⟨hi1, hbost21, hXst21⟩
        dsimp only at hi1 hbost21 hXst21 ⊢
        have hRst21 : Rdx 33 (lnkC) (bldMx 28 (lnkC) (pf ((entsL (x.ents.take i)) ++ [(⟨2, x.t⟩ : Lnk)]) (x.pars.take i1)) st21) (bldVx (pf ((entsL (x.ents.take i)) ++ [(⟨2, x.t⟩ : Lnk)]) (x.pars.take i1)) st21) (pf ((entsL (x.ents.take i)) ++ [(⟨2, x.t⟩ : Lnk)]) (x.pars.take i1)) := hbost21.rdx (u := 28) lnkC_len
        refine pn_seq ?_
        refine pn_seq ?_
        refine pn_plain [3] rfl ?_
        refine TE_q rfl rfl (RD.move rfl) rfl ?_
        refine TE_q rfl rfl (RD.fieldAddr (o := 35) Try.runUnderlying30 rfl rfl Try.sizeOf26 rfl) rfl ?_
        refine TE_l rfl rfl trivial rfl (RD.load (i := 0) (v := xp) Try.isAgg26 rfl rfl rfl) rfl ?_
        refine TE_q rfl rfl (RD.lenX Try.runUnderlying26 rfl hbxp) rfl ?_
        refine TE_q rfl rfl (RD.lss rfl rfl) rfl ?_
        refine TE_nil0 ?_
        refine pn_condD rfl (fun hc17 => ?_) (fun hc17 => ?_)
        · refine pn_skip ?_
          refine pn_seq ?_
          refine pn_block ?_
          refine pn_plain [] rfl ?_
          refine TE_q rfl rfl (RD.move rfl) rfl ?_
          refine TE_q rfl rfl (RD.fieldAddr (o := 35) Try.runUnderlying30 rfl rfl Try.sizeOf26 rfl) rfl ?_
          refine TE_l rfl rfl trivial rfl (RD.load (i := 0) (v := xp) Try.isAgg26 rfl rfl rfl) rfl ?_
          refine TE_q rfl rfl (RD.move rfl) rfl ?_
          refine TE_q rfl rfl (RD.idxR (i := i1) (o := (i1 * 32 + 0)) Try.runUnderlying26 Try.sizeOf25 rfl hbxp rfl rfl (by omega) (by rfl)) rfl ?_
          refine TE_l rfl rfl trivial rfl (RD.ldRA (i := i1) (j := 0) (vs := (idC (gt x.pars i1))) Try.isAgg25 Try.sizeOf25 rfl hbxp (gt_some (by omega)) (by rfl) rfl (fun _ _ hu => by rw [Nat.zero_add]; exact hu) (idC_agg _) (fun _ hw => hw.sp (fun a => by simp -failIfUnchanged <;> omega))) rfl ?_
          refine TE_q rfl rfl (RD.build (v := lnkV (⟨3, (gt x.pars i1)⟩ : Lnk)) rfl (fun w => by simp [Instr.build, Try.zeroValue28, Try.runUnderlying28, Try.sizeOf25, Try.sizeOf3, Value.cells, Instr.fill, lnkV, idV])) rfl ?_
          refine TE_buildSlice (cells := (cat lnkC [(⟨3, (gt x.pars i1)⟩ : Lnk)] ++ []).toArray) rfl Try.runUnderlying33 Try.sizeOf28 Try.zeroValue28 rfl rfl rfl (by kernel_rfl) trivial rfl fun b55 hb55 => ?_
          refine TE_sp ((bldMx 28 (lnkC) (pf ((entsL (x.ents.take i)) ++ [(⟨2, x.t⟩ : Lnk)]) (x.pars.take i1)) st21) ++ ((b55, .cells (cat lnkC [(⟨3, (gt x.pars i1)⟩ : Lnk)] ++ []).toArray 28 (0, 0)) :: (b1, .cells (objV x xd xe xp).cells 30 (0, 0)) :: HX)) (fun a => by simp -failIfUnchanged <;> omega) ?_
          refine TE_appendX (st := st21) (l := (pf ((entsL (x.ents.take i)) ++ [(⟨2, x.t⟩ : Lnk)]) (x.pars.take i1))) (ys := [(⟨3, (gt x.pars i1)⟩ : Lnk)]) ((b55, .cells (cat lnkC [(⟨3, (gt x.pars i1)⟩ : Lnk)] ++ []).toArray 28 (0, 0)) :: (b1, .cells (objV x xd xe xp).cells 30 (0, 0)) :: HX) lnkC_len lnkC_one rfl rfl rfl rfl trivial rfl Try.underlying33 el_lnk rfl rfl rfl hbost21 (Rdx.blk (enc := lnkC) (H := [(b55, .cells (cat lnkC [(⟨3, (gt x.pars i1)⟩ : Lnk)] ++ []).toArray 28 (0, 0))]) (xs := [(⟨3, (gt x.pars i1)⟩ : Lnk)]) (n := 1) (i := 0) (tl := []) (c := 1) lnkC_len rfl rfl (Nat.le_refl _)) (fun _ hw => hw.sp (fun a => by simp -failIfUnchanged <;> omega)) (by simp; omega) rfl hXst21 ?_
          intro st18 hbo19 hX20 _
          have hR22 : Rdx 33 (lnkC) (bldMx 28 (lnkC) ((pf ((entsL (x.ents.take i)) ++ [(⟨2, x.t⟩ : Lnk)]) (x.pars.take i1)) ++ [(⟨3, (gt x.pars i1)⟩ : Lnk)]) st18) (bldVx ((pf ((entsL (x.ents.take i)) ++ [(⟨2, x.t⟩ : Lnk)]) (x.pars.take i1)) ++ [(⟨3, (gt x.pars i1)⟩ : Lnk)]) st18) ((pf ((entsL (x.ents.take i)) ++ [(⟨2, x.t⟩ : Lnk)]) (x.pars.take i1)) ++ [(⟨3, (gt x.pars i1)⟩ : Lnk)]) := hbo19.rdx (u := 28) lnkC_len
          refine TE_sp ((b55, .cells (cat lnkC [(⟨3, (gt x.pars i1)⟩ : Lnk)] ++ []).toArray 28 (0, 0)) :: (b1, .cells (objV x xd xe xp).cells 30 (0, 0)) :: ((bldMx 28 (lnkC) ((pf ((entsL (x.ents.take i)) ++ [(⟨2, x.t⟩ : Lnk)]) (x.pars.take i1)) ++ [(⟨3, (gt x.pars i1)⟩ : Lnk)]) st18) ++ HX)) (fun a => by simp -failIfUnchanged <;> omega) ?_
          refine TE_q rfl rfl (RD.assign rfl) rfl ?_
          refine TE_nil0 ?_
          refine pn_plainG [] ((b1, .cells (objV x xd xe xp).cells 30 (0, 0)) :: ((bldMx 28 (lnkC) ((pf ((entsL (x.ents.take i)) ++ [(⟨2, x.t⟩ : Lnk)]) (x.pars.take i1)) ++ [(⟨3, (gt x.pars i1)⟩ : Lnk)]) st18) ++ HX)) rfl (fun a => by simp -failIfUnchanged <;> omega) ?_
          refine TE_q rfl rfl (RD.move rfl) rfl ?_
          refine TE_q rfl rfl (RD.addI rfl rfl (by omega) (by omega)) rfl ?_
          refine TE_q rfl rfl (RD.assign rfl) rfl ?_
          refine TE_nil0 ?_
          have he23 : ((pf ((entsL (x.ents.take i)) ++ [(⟨2, x.t⟩ : Lnk)]) (x.pars.take i1)) ++ [(⟨3, (gt x.pars i1)⟩ : Lnk)]) = (pf ((entsL (x.ents.take i)) ++ [(⟨2, x.t⟩ : Lnk)]) (x.pars.take (i1 + 1))) := (pf_next (by omega))
          exact pn_againS ((i1 + 1), st18) ⟨(by omega), (by rw [← he23]; exact hbo19), (by rw [← he23]; exact hX20)⟩ (by dsimp only; omega) ⟨rfl, (congrArg (fun l => some (bldVx l st18)) he23), rfl, trivial⟩ (fun a => by (try simp only [← he23]); simp -failIfUnchanged <;> omega)
        · refine pn_exit ?_
          refine pn_seq ?_
          refine pn_seq ?_
          refine pn_plain [] rfl ?_
          refine TE_q rfl rfl (RD.fieldAddr (o := 0) Try.runUnderlying30 rfl rfl Try.sizeOf3 rfl) rfl ?_
          refine TE_l rfl rfl trivial rfl (RD.load (i := 0) (v := .int .i64 x.k) Try.isAgg3 rfl rfl rfl) rfl ?_
          refine TE_q rfl rfl (RD.eql rfl rfl) rfl ?_
          refine TE_nil0 ?_
          refine pn_condD rfl (fun hc24 => ?_) (fun hc24 => ?_)
          · refine pn_plain [] rfl ?_
            refine TE_q rfl rfl (RD.move rfl) rfl ?_
            refine TE_q rfl rfl (RD.fieldAddr (o := 36) Try.runUnderlying30 rfl rfl Try.sizeOf28 rfl) rfl ?_
            refine TE_l rfl rfl trivial rfl (RD.loadA (i := 0) (v := lnkV x.tg) Try.isAgg28 Try.sizeOf28 rfl rfl (Nat.le_of_ble_eq_true rfl) (obj_tg _ _ _ _)) rfl ?_
            refine TE_buildSlice (cells := (cat lnkC [x.tg] ++ []).toArray) rfl Try.runUnderlying33 Try.sizeOf28 Try.zeroValue28 rfl rfl rfl (by kernel_rfl) trivial rfl fun b63 hb63 => ?_
            refine TE_sp ((bldMx 28 (lnkC) (pf ((entsL (x.ents.take i)) ++ [(⟨2, x.t⟩ : Lnk)]) (x.pars.take i1)) st21) ++ ((b63, .cells (cat lnkC [x.tg] ++ []).toArray 28 (0, 0)) :: (b1, .cells (objV x xd xe xp).cells 30 (0, 0)) :: HX)) (fun a => by simp -failIfUnchanged <;> omega) ?_
            refine TE_appendX (st := st21) (l := (pf ((entsL (x.ents.take i)) ++ [(⟨2, x.t⟩ : Lnk)]) (x.pars.take i1))) (ys := [x.tg]) ((b63, .cells (cat lnkC [x.tg] ++ []).toArray 28 (0, 0)) :: (b1, .cells (objV x xd xe xp).cells 30 (0, 0)) :: HX) lnkC_len lnkC_one rfl rfl rfl rfl trivial rfl Try.underlying33 el_lnk rfl rfl rfl hbost21 (Rdx.blk (enc := lnkC) (H := [(b63, .cells (cat lnkC [x.tg] ++ []).toArray 28 (0, 0))]) (xs := [x.tg]) (n := 1) (i := 0) (tl := []) (c := 1) lnkC_len rfl rfl (Nat.le_refl _)) (fun _ hw => hw.sp (fun a => by simp -failIfUnchanged <;> omega)) (by simp; omega) rfl hXst21 ?_
            intro st25 hbo26 hX27 _
            have hR29 : Rdx 33 (lnkC) (bldMx 28 (lnkC) ((pf ((entsL (x.ents.take i)) ++ [(⟨2, x.t⟩ : Lnk)]) (x.pars.take i1)) ++ [x.tg]) st25) (bldVx ((pf ((entsL (x.ents.take i)) ++ [(⟨2, x.t⟩ : Lnk)]) (x.pars.take i1)) ++ [x.tg]) st25) ((pf ((entsL (x.ents.take i)) ++ [(⟨2, x.t⟩ : Lnk)]) (x.pars.take i1)) ++ [x.tg]) := hbo26.rdx (u := 28) lnkC_len
            refine TE_sp ((b63, .cells (cat lnkC [x.tg] ++ []).toArray 28 (0, 0)) :: (b1, .cells (objV x xd xe xp).cells 30 (0, 0)) :: ((bldMx 28 (lnkC) ((pf ((entsL (x.ents.take i)) ++ [(⟨2, x.t⟩ : Lnk)]) (x.pars.take i1)) ++ [x.tg]) st25) ++ HX)) (fun a => by simp -failIfUnchanged <;> omega) ?_
            refine TE_q rfl rfl (RD.assign rfl) rfl ?_
            refine TE_nil0 ?_
            refine pn_seq ?_
            refine pn_plainG [] (bldMx 28 (lnkC) ((pf ((entsL (x.ents.take i)) ++ [(⟨2, x.t⟩ : Lnk)]) (x.pars.take i1)) ++ [x.tg]) st25) rfl (fun a => by simp -failIfUnchanged <;> omega) ?_
            refine TE_q rfl rfl (RD.move rfl) rfl ?_
            refine TE_q rfl rfl (RD.assign rfl) rfl ?_
            refine TE_nil0 ?_
            refine pn_ret ?_
            have he30 : ((pf ((entsL (x.ents.take i)) ++ [(⟨2, x.t⟩ : Lnk)]) (x.pars.take i1)) ++ [x.tg]) = rLinks x := (by exfalso; omega)
            exact pn_doneS (bldMx 28 (lnkC) ((pf ((entsL (x.ents.take i)) ++ [(⟨2, x.t⟩ : Lnk)]) (x.pars.take i1)) ++ [x.tg]) st25) rfl rfl ⟨st25, (by rw [← he30]; exact hbo26), (by rw [← he30]; rfl), (by rw [← he30])⟩ (fun a => by simp -failIfUnchanged <;> omega) hX27
          · refine pn_skip ?_
            refine pn_seq ?_
            refine pn_plainG [] (bldMx 28 (lnkC) (pf ((entsL (x.ents.take i)) ++ [(⟨2, x.t⟩ : Lnk)]) (x.pars.take i1)) st21) rfl (fun a => by simp -failIfUnchanged <;> omega) ?_
            refine TE_q rfl rfl (RD.move rfl) rfl ?_
            refine TE_q rfl rfl (RD.assign rfl) rfl ?_
            refine TE_nil0 ?_
            refine pn_ret ?_
            have he31 : (pf ((entsL (x.ents.take i)) ++ [(⟨2, x.t⟩ : Lnk)]) (x.pars.take i1)) = rLinks x := (by rw [take_all (l := x.ents) (by omega), take_all (l := x.pars) (by omega), pf_eq]; simp [rLinks, err0 hc3, hc11, hc24, entsL, parsL])
            exact pn_doneS (bldMx 28 (lnkC) (pf ((entsL (x.ents.take i)) ++ [(⟨2, x.t⟩ : Lnk)]) (x.pars.take i1)) st21) rfl rfl ⟨st21, (by rw [← he31]; exact hbost21), (by rw [← he31]; rfl), (by rw [← he31])⟩ (fun a => by simp -failIfUnchanged <;> omega) hXst21
      · refine pn_skip ?_
        refine pn_seq ?_
        refine pn_seq ?_
        refine pn_plain [] rfl ?_
        refine TE_q rfl rfl (RD.assign rfl) rfl ?_
        refine TE_nil0 ?_
        refine pn_block ?_
        refine pn_loopS (σ := Nat × SnkS) (fun q => [(1, .pointer (some ⟨b1, 0, none⟩)), (3, bldVx (pf (entsL (x.ents.take i)) (x.pars.take q.1)) q.2), (5, .int .i64 (q.1 : Int))]) (fun q => ((b1, .cells (objV x xd xe xp).cells 30 (0, 0)) :: ((bldMx 28 (lnkC) (pf (entsL (x.ents.take i)) (x.pars.take q.1)) q.2) ++ HX))) (fun q => (q.1 ≤ x.pars.length) ∧ (BldOk 33 (lnkC) (pf (entsL (x.ents.take i)) (x.pars.take q.1)) q.2) ∧ (∀ e ∈ bldMx 28 (lnkC) (pf (entsL (x.ents.take i)) (x.pars.take q.1)) q.2, w.heap.size ≤ e.1 ∨ e.1 ∈ [])) (fun q => x.pars.length - q.1) (0, st) ⟨(by omega), hbost, hXst⟩ ⟨rfl, rfl, rfl, trivial⟩ (fun a => by simp -failIfUnchanged <;> omega) ?_
        rintro ⟨i2, st22⟩ ⟨hi2, hbost22, hXst22⟩
        dsimp only at hi2 hbost22 hXst22 ⊢
        have hRst22 : Rdx 33 (lnkC) (bldMx 28 (lnkC) (pf (entsL (x.ents.take i)) (x.pars.take i2)) st22) (bldVx (pf (entsL (x.ents.take i)) (x.pars.take i2)) st22) (pf (entsL (x.ents.take i)) (x.pars.take i2)) := hbost22.rdx (u := 28) lnkC_len
        refine pn_seq ?_
        refine pn_seq ?_
        refine pn_plain [3] rfl ?_
        refine TE_q rfl rfl (RD.move rfl) rfl ?_
        refine TE_q rfl rfl (RD.fieldAddr (o := 35) Try.runUnderlying30 rfl rfl Try.sizeOf26 rfl) rfl ?_
        refine TE_l rfl rfl trivial rfl (RD.load (i := 0) (v := xp) Try.isAgg26 rfl rfl rfl) rfl ?_
        refine TE_q rfl rfl (RD.lenX Try.runUnderlying26 rfl hbxp) rfl ?_
        refine TE_q rfl rfl (RD.lss rfl rfl) rfl ?_
        refine TE_nil0 ?_
        refine pn_condD rfl (fun hc32 => ?_) (fun hc32 => ?_)
        · refine pn_skip ?_
          refine pn_seq ?_
          refine pn_block ?_
          refine pn_plain [] rfl ?_
          refine TE_q rfl rfl (RD.move rfl) rfl ?_
          refine TE_q rfl rfl (RD.fieldAddr (o := 35) Try.runUnderlying30 rfl rfl Try.sizeOf26 rfl) rfl ?_
          refine TE_l rfl rfl trivial rfl (RD.load (i := 0) (v := xp) Try.isAgg26 rfl rfl rfl) rfl ?_
          refine TE_q rfl rfl (RD.move rfl) rfl ?_
          refine TE_q rfl rfl (RD.idxR (i := i2) (o := (i2 * 32 + 0)) Try.runUnderlying26 Try.sizeOf25 rfl hbxp rfl rfl (by omega) (by rfl)) rfl ?_
          refine TE_l rfl rfl trivial rfl (RD.ldRA (i := i2) (j := 0) (vs := (idC (gt x.pars i2))) Try.isAgg25 Try.sizeOf25 rfl hbxp (gt_some (by omega)) (by rfl) rfl (fun _ _ hu => by rw [Nat.zero_add]; exact hu) (idC_agg _) (fun _ hw => hw.sp (fun a => by simp -failIfUnchanged <;> omega))) rfl ?_
          refine TE_q rfl rfl (RD.build (v := lnkV (⟨3, (gt x.pars i2)⟩ : Lnk)) rfl (fun w => by simp [Instr.build, Try.zeroValue28, Try.runUnderlying28, Try.sizeOf25, Try.sizeOf3, Value.cells, Instr.fill, lnkV, idV])) rfl ?_
          refine TE_buildSlice (cells := (cat lnkC [(⟨3, (gt x.pars i2)⟩ : Lnk)] ++ []).toArray) rfl Try.runUnderlying33 Try.sizeOf28 Try.zeroValue28 rfl rfl rfl (by kernel_rfl) trivial rfl fun b55 hb55 => ?_
          refine TE_sp ((bldMx 28 (lnkC) (pf (entsL (x.ents.take i)) (x.pars.take i2)) st22) ++ ((b55, .cells (cat lnkC [(⟨3, (gt x.pars i2)⟩ : Lnk)] ++ []).toArray 28 (0, 0)) :: (b1, .cells (objV x xd xe xp).cells 30 (0, 0)) :: HX)) (fun a => by simp -failIfUnchanged <;> omega) ?_
          refine TE_appendX (st := st22) (l := (pf (entsL (x.ents.take i)) (x.pars.take i2))) (ys := [(⟨3, (gt x.pars i2)⟩ : Lnk)]) ((b55, .cells (cat lnkC [(⟨3, (gt x.pars i2)⟩ : Lnk)] ++ []).toArray 28 (0, 0)) :: (b1, .cells (objV x xd xe xp).cells 30 (0, 0)) :: HX) lnkC_len lnkC_one rfl rfl rfl rfl trivial rfl Try.underlying33 el_lnk rfl rfl rfl hbost22 (Rdx.blk (enc := lnkC) (H := [(b55, .cells (cat lnkC [(⟨3, (gt x.pars i2)⟩ : Lnk)] ++ []).toArray 28 (0, 0))]) (xs := [(⟨3, (gt x.pars i2)⟩ : Lnk)]) (n := 1) (i := 0) (tl := []) (c := 1) lnkC_len rfl rfl (Nat.le_refl _)) (fun _ hw => hw.sp (fun a => by simp -failIfUnchanged <;> omega)) (by simp; omega) rfl hXst22 ?_
          intro st33 hbo34 hX35 _
          have hR37 : Rdx 33 (lnkC) (bldMx 28 (lnkC) ((pf (entsL (x.ents.take i)) (x.pars.take i2)) ++ [(⟨3, (gt x.pars i2)⟩ : Lnk)]) st33) (bldVx ((pf (entsL (x.ents.take i)) (x.pars.take i2)) ++ [(⟨3, (gt x.pars i2)⟩ : Lnk)]) st33) ((pf (entsL (x.ents.take i)) (x.pars.take i2)) ++ [(⟨3, (gt x.pars i2)⟩ : Lnk)]) := hbo34.rdx (u := 28) lnkC_len
          refine TE_sp ((b55, .cells (cat lnkC [(⟨3, (gt x.pars i2)⟩ : Lnk)] ++ []).toArray 28 (0, 0)) :: (b1, .cells (objV x xd xe xp).cells 30 (0, 0)) :: ((bldMx 28 (lnkC) ((pf (entsL (x.ents.take i)) (x.pars.take i2)) ++ [(⟨3, (gt x.pars i2)⟩ : Lnk)]) st33) ++ HX)) (fun a => by simp -failIfUnchanged <;> omega) ?_
          refine TE_q rfl rfl (RD.assign rfl) rfl ?_
          refine TE_nil0 ?_
          refine pn_plainG [] ((b1, .cells (objV x xd xe xp).cells 30 (0, 0)) :: ((bldMx 28 (lnkC) ((pf (entsL (x.ents.take i)) (x.pars.take i2)) ++ [(⟨3, (gt x.pars i2)⟩ : Lnk)]) st33) ++ HX)) rfl (fun a => by simp -failIfUnchanged <;> omega) ?_
          refine TE_q rfl rfl (RD.move rfl) rfl ?_
          refine TE_q rfl rfl (RD.addI rfl rfl (by omega) (by omega)) rfl ?_
          refine TE_q rfl rfl (RD.assign rfl) rfl ?_
          refine TE_nil0 ?_
          have he38 : ((pf (entsL (x.ents.take i)) (x.pars.take i2)) ++ [(⟨3, (gt x.pars i2)⟩ : Lnk)]) = (pf (entsL (x.ents.take i)) (x.pars.take (i2 + 1))) := (pf_next (by omega))
          exact pn_againS ((i2 + 1), st33) ⟨(by omega), (by rw [← he38]; exact hbo34), (by rw [← he38]; exact hX35)⟩ (by dsimp only; omega) ⟨rfl, (congrArg (fun l => some (bldVx l st33)) he38), rfl, trivial⟩ (fun a => by (try simp only [← he38]); simp -failIfUnchanged <;> omega)
        · refine pn_exit ?_
          refine pn_seq ?_
          refine pn_seq ?_
          refine pn_plain [] rfl ?_
          refine TE_q rfl rfl (RD.fieldAddr (o := 0) Try.runUnderlying30 rfl rfl Try.sizeOf3 rfl) rfl ?_
          refine TE_l rfl rfl trivial rfl (RD.load (i := 0) (v := .int .i64 x.k) Try.isAgg3 rfl rfl rfl) rfl ?_
          refine TE_q rfl rfl (RD.eql rfl rfl) rfl ?_
          refine TE_nil0 ?_
          refine pn_condD rfl (fun hc39 => ?_) (fun hc39 => ?_)
          · refine pn_plain [] rfl ?_
            refine TE_q rfl rfl (RD.move rfl) rfl ?_
            refine TE_q rfl rfl (RD.fieldAddr (o := 36) Try.runUnderlying30 rfl rfl Try.sizeOf28 rfl) rfl ?_
            refine TE_l rfl rfl trivial rfl (RD.loadA (i := 0) (v := lnkV x.tg) Try.isAgg28 Try.sizeOf28 rfl rfl (Nat.le_of_ble_eq_true rfl) (obj_tg _ _ _ _)) rfl ?_
            refine TE_buildSlice (cells := (cat lnkC [x.tg] ++ []).toArray) rfl Try.runUnderlying33 Try.sizeOf28 Try.zeroValue28 rfl rfl rfl (by kernel_rfl) trivial rfl fun b63 hb63 => ?_
            refine TE_sp ((bldMx 28 (lnkC) (pf (entsL (x.ents.take i)) (x.pars.take i2)) st22) ++ ((b63, .cells (cat lnkC [x.tg] ++ []).toArray 28 (0, 0)) :: (b1, .cells (objV x xd xe xp).cells 30 (0, 0)) :: HX)) (fun a => by simp -failIfUnchanged <;> omega) ?_
            refine TE_appendX (st := st22) (l := (pf (entsL (x.ents.take i)) (x.pars.take i2))) (ys := [x.tg]) ((b63, .cells (cat lnkC [x.tg] ++ []).toArray 28 (0, 0)) :: (b1, .cells (objV x xd xe xp).cells 30 (0, 0)) :: HX) lnkC_len lnkC_one rfl rfl rfl rfl trivial rfl Try.underlying33 el_lnk rfl rfl rfl hbost22 (Rdx.blk (enc := lnkC) (H := [(b63, .cells (cat lnkC [x.tg] ++ []).toArray 28 (0, 0))]) (xs := [x.tg]) (n := 1) (i := 0) (tl := []) (c := 1) lnkC_len rfl rfl (Nat.le_refl _)) (fun _ hw => hw.sp (fun a => by simp -failIfUnchanged <;> omega)) (by simp; omega) rfl hXst22 ?_
            intro st40 hbo41 hX42 _
            have hR44 : Rdx 33 (lnkC) (bldMx 28 (lnkC) ((pf (entsL (x.ents.take i)) (x.pars.take i2)) ++ [x.tg]) st40) (bldVx ((pf (entsL (x.ents.take i)) (x.pars.take i2)) ++ [x.tg]) st40) ((pf (entsL (x.ents.take i)) (x.pars.take i2)) ++ [x.tg]) := hbo41.rdx (u := 28) lnkC_len
            refine TE_sp ((b63, .cells (cat lnkC [x.tg] ++ []).toArray 28 (0, 0)) :: (b1, .cells (objV x xd xe xp).cells 30 (0, 0)) :: ((bldMx 28 (lnkC) ((pf (entsL (x.ents.take i)) (x.pars.take i2)) ++ [x.tg]) st40) ++ HX)) (fun a => by simp -failIfUnchanged <;> omega) ?_
            refine TE_q rfl rfl (RD.assign rfl) rfl ?_
            refine TE_nil0 ?_
            refine pn_seq ?_
            refine pn_plainG [] (bldMx 28 (lnkC) ((pf (entsL (x.ents.take i)) (x.pars.take i2)) ++ [x.tg]) st40) rfl (fun a => by simp -failIfUnchanged <;> omega) ?_
            refine TE_q rfl rfl (RD.move rfl) rfl ?_
            refine TE_q rfl rfl (RD.assign rfl) rfl ?_
            refine TE_nil0 ?_
            refine pn_ret ?_
            have he45 : ((pf (entsL (x.ents.take i)) (x.pars.take i2)) ++ [x.tg]) = rLinks x := (by rw [take_all (l := x.ents) (by omega), take_all (l := x.pars) (by omega), pf_eq]; simp [rLinks, err0 hc3, hc11, hc39, entsL, parsL])
            exact pn_doneS (bldMx 28 (lnkC) ((pf (entsL (x.ents.take i)) (x.pars.take i2)) ++ [x.tg]) st40) rfl rfl ⟨st40, (by rw [← he45]; exact hbo41), (by rw [← he45]; rfl), (by rw [← he45])⟩ (fun a => by simp -failIfUnchanged <;> omega) hX42
          · refine pn_skip ?_
            refine pn_seq ?_
            refine pn_plainG [] (bldMx 28 (lnkC) (pf (entsL (x.ents.take i)) (x.pars.take i2)) st22) rfl (fun a => by simp -failIfUnchanged <;> omega) ?_
            refine TE_q rfl rfl (RD.move rfl) rfl ?_
            refine TE_q rfl rfl (RD.assign rfl) rfl ?_
            refine TE_nil0 ?_
            refine pn_ret ?_
            have he46 : (pf (entsL (x.ents.take i)) (x.pars.take i2)) = rLinks x := (by rw [take_all (l := x.ents) (by omega), take_all (l := x.pars) (by omega), pf_eq]; simp [rLinks, err0 hc3, hc11, hc39, entsL, parsL])
            exact pn_doneS (bldMx 28 (lnkC) (pf (entsL (x.ents.take i)) (x.pars.take i2)) st22) rfl rfl ⟨st22, (by rw [← he46]; exact hbost22), (by rw [← he46]; rfl), (by rw [← he46])⟩ (fun a => by simp -failIfUnchanged <;> omega) hXst22

theorem c_r7Same (x : Ob) (xd : Value) (xe : Value) (xp : Value) (y : Ob) (yd : Value) (ye : Value) (yp : Value) (HX : Mem) (w : World) (hbxd : Rdb HX xd x.data) (hbxe : Rdx 34 (entC) HX xe x.ents) (hbxp : Rdx 32 (idC) HX xp x.pars) (hbyd : Rdb HX yd y.data) (hbye : Rdx 34 (entC) HX ye y.ents) (hbyp : Rdx 32 (idC) HX yp y.pars) (hxl : x.ents.length ≤ 1000000 ∧ x.pars.length ≤ 1000000) (hyl : y.ents.length ≤ 1000000 ∧ y.pars.length ≤ 1000000) (hH : Hp HX w) : Calls Try.prog 11 #[objV x xd xe xp, objV y yd ye yp] w (Ret w [] fun v H1 => v = .bool (obSame x y) ∧ H1 = []) := by
  have hx1 := hxl.1; have hx2 := hxl.2; have hy1 := hyl.1; have hy2 := hyl.2
  refine fn_enter (args := [_, _]) Try.func11 rfl Try.ntmps11 rfl hH ?_
  refine pn_seq ?_
  refine pn_plain [] rfl ?_
  refine TE_boxC (objV x xd xe xp).cells rfl rfl rfl trivial rfl fun b2 hb2 => ?_
  refine TE_boxC (objV y yd ye yp).cells rfl rfl rfl trivial rfl fun b3 hb3 => ?_
  refine TE_q rfl rfl (RD.assign rfl) rfl ?_
  refine TE_nil0 ?_
  refine pn_seq ?_
  refine pn_seq ?_
  refine pn_plain [17, 20] rfl ?_
  refine TE_q rfl rfl (RD.fieldAddr (o := 0) Try.runUnderlying30 rfl rfl Try.sizeOf3 rfl) rfl ?_
  refine TE_l rfl rfl trivial rfl (RD.load (i := 1) (v := .int .i64 x.k) Try.isAgg3 rfl rfl rfl) rfl ?_
  refine TE_q rfl rfl (RD.fieldAddr (o := 0) Try.runUnderlying30 rfl rfl Try.sizeOf3 rfl) rfl ?_
  refine TE_l rfl rfl trivial rfl (RD.load (i := 0) (v := .int .i64 y.k) Try.isAgg3 rfl rfl rfl) rfl ?_
  refine TE_q rfl rfl (RD.neq rfl rfl) rfl ?_
  refine TE_q rfl rfl (RD.move rfl) rfl ?_
  refine TE_join (σ := Unit) (fun _ => [(2, .pointer (some ⟨b2, 0, none⟩)), (3, .pointer (some ⟨b3, 0, none⟩)), (49, .bool ((!decide (x.k = y.k)) || ((!decide ((⟨x.data.toArray⟩ : ByteArray) = (⟨y.data.toArray⟩ : ByteArray))) || ((!decide ((x.ents.length : Int) = (y.ents.length : Int))) || ((!(sameN 32 x.t y.t)) || ((!(same_lnk x.tg y.tg)) || (!decide (x.m = y.m))))))))]) (fun _ => ((b3, .cells (objV y yd ye yp).cells 30 (0, 0)) :: (b2, .cells (objV x xd xe xp).cells 30 (0, 0)) :: HX)) (fun _ => True) ?_ ?_
  · refine TE_ndec (fun hf1 => ?_) (fun hf1 => ?_)
    · refine TE_s rfl rfl rfl rfl rfl ?_
      refine TE_s rfl rfl rfl rfl rfl ?_
      refine TE_s rfl rfl rfl rfl rfl ?_
      refine TE_s rfl rfl rfl rfl rfl ?_
      refine TE_s rfl rfl rfl rfl rfl ?_
      refine TE_s rfl rfl rfl rfl rfl ?_
      refine TE_s rfl rfl rfl rfl rfl ?_
      refine TE_q rfl rfl (RD.pickT rfl rfl) rfl ?_
      refine TE_q rfl rfl (RD.move rfl) rfl ?_
      refine TE_s rfl rfl rfl rfl rfl ?_
      refine TE_s rfl rfl rfl rfl rfl ?_
      refine TE_s rfl rfl rfl rfl rfl ?_
      refine TE_s rfl rfl rfl rfl rfl ?_
      refine TE_s rfl rfl rfl rfl rfl ?_
      refine TE_s rfl rfl rfl rfl rfl ?_
      refine TE_s rfl rfl rfl rfl rfl ?_
      refine TE_q rfl rfl (RD.pickT rfl rfl) rfl ?_
      refine TE_q rfl rfl (RD.move rfl) rfl ?_
      refine TE_s rfl rfl rfl rfl rfl ?_
      refine TE_s rfl rfl rfl rfl rfl ?_
      refine TE_s rfl rfl rfl rfl rfl ?_
      refine TE_s rfl rfl rfl rfl rfl ?_
      refine TE_s rfl rfl rfl rfl rfl ?_
      refine TE_q rfl rfl (RD.pickT rfl rfl) rfl ?_
      refine TE_q rfl rfl (RD.move rfl) rfl ?_
      refine TE_s rfl rfl rfl rfl rfl ?_
      refine TE_s rfl rfl rfl rfl rfl ?_
      refine TE_s rfl rfl rfl rfl rfl ?_
      refine TE_s rfl rfl rfl rfl rfl ?_
      refine TE_s rfl rfl rfl rfl rfl ?_
      refine TE_q rfl rfl (RD.pickT rfl rfl) rfl ?_
      refine TE_q rfl rfl (RD.move rfl) rfl ?_
      refine TE_s rfl rfl rfl rfl rfl ?_
      refine TE_s rfl rfl rfl rfl rfl ?_
      refine TE_s rfl rfl rfl rfl rfl ?_
      refine TE_s rfl rfl rfl rfl rfl ?_
      refine TE_s rfl rfl rfl rfl rfl ?_
      refine TE_q rfl rfl (RD.pickT rfl rfl) rfl ?_
      refine TE_nil0 ?_
      exact pn_give () trivial ⟨rfl, rfl, congrArg (fun b => some (Value.bool b)) (by first | (simp [hf1]; done) | (simp only [decide_eq_false hf1]; rfl)), trivial⟩ (fun _ hw => hw.sp (fun a => by simp -failIfUnchanged <;> omega))
    · refine TE_gq rfl rfl rfl rfl (RD.fieldAddr (o := 1) Try.runUnderlying30 rfl rfl Try.sizeOf22 rfl) rfl ?_
      refine TE_l rfl rfl ⟨_, rfl, rfl⟩ rfl (RD.load (i := 1) (v := xd) Try.isAgg22 rfl rfl rfl) rfl ?_
      refine TE_l rfl rfl ⟨_, rfl, rfl⟩ rfl (RD.str_of_bytes Try.underlying22 Try.underlying9 Try.underlying5 rfl (BytesIn.mono (hbxd).bytes (fun _ hw => hw.sp (fun a => by simp -failIfUnchanged <;> omega)))) rfl ?_
      refine TE_gq rfl rfl rfl rfl (RD.fieldAddr (o := 1) Try.runUnderlying30 rfl rfl Try.sizeOf22 rfl) rfl ?_
      refine TE_l rfl rfl ⟨_, rfl, rfl⟩ rfl (RD.load (i := 0) (v := yd) Try.isAgg22 rfl rfl rfl) rfl ?_
      refine TE_l rfl rfl ⟨_, rfl, rfl⟩ rfl (RD.str_of_bytes Try.underlying22 Try.underlying9 Try.underlying5 rfl (BytesIn.mono (hbyd).bytes (fun _ hw => hw.sp (fun a => by simp -failIfUnchanged <;> omega)))) rfl ?_
      refine TE_gq rfl rfl rfl rfl (RD.neq_string rfl rfl) rfl ?_
      refine TE_q rfl rfl (RD.pickF rfl rfl) rfl ?_
      refine TE_q rfl rfl (RD.move rfl) rfl ?_
      refine TE_ndec (fun hf2 => ?_) (fun hf2 => ?_)
      · refine TE_s rfl rfl rfl rfl rfl ?_
        refine TE_s rfl rfl rfl rfl rfl ?_
        refine TE_s rfl rfl rfl rfl rfl ?_
        refine TE_s rfl rfl rfl rfl rfl ?_
        refine TE_s rfl rfl rfl rfl rfl ?_
        refine TE_s rfl rfl rfl rfl rfl ?_
        refine TE_s rfl rfl rfl rfl rfl ?_
        refine TE_q rfl rfl (RD.pickT rfl rfl) rfl ?_
        refine TE_q rfl rfl (RD.move rfl) rfl ?_
        refine TE_s rfl rfl rfl rfl rfl ?_
        refine TE_s rfl rfl rfl rfl rfl ?_
        refine TE_s rfl rfl rfl rfl rfl ?_
        refine TE_s rfl rfl rfl rfl rfl ?_
        refine TE_s rfl rfl rfl rfl rfl ?_
        refine TE_q rfl rfl (RD.pickT rfl rfl) rfl ?_
        refine TE_q rfl rfl (RD.move rfl) rfl ?_
        refine TE_s rfl rfl rfl rfl rfl ?_
        refine TE_s rfl rfl rfl rfl rfl ?_
        refine TE_s rfl rfl rfl rfl rfl ?_
        refine TE_s rfl rfl rfl rfl rfl ?_
        refine TE_s rfl rfl rfl rfl rfl ?_
        refine TE_q rfl rfl (RD.pickT rfl rfl) rfl ?_
        refine TE_q rfl rfl (RD.move rfl) rfl ?_
        refine TE_s rfl rfl rfl rfl rfl ?_
        refine TE_s rfl rfl rfl rfl rfl ?_
        refine TE_s rfl rfl rfl rfl rfl ?_
        refine TE_s rfl rfl rfl rfl rfl ?_
        refine TE_s rfl rfl rfl rfl rfl ?_
        refine TE_q rfl rfl (RD.pickT rfl rfl) rfl ?_
        refine TE_nil0 ?_
        exact pn_give () trivial ⟨rfl, rfl, congrArg (fun b => some (Value.bool b)) (by first | (simp [hf1, hf2]; done) | (simp only [decide_eq_true hf1, decide_eq_false hf2]; rfl)), trivial⟩ (fun _ hw => hw.sp (fun a => by simp -failIfUnchanged <;> omega))
      · refine TE_gq rfl rfl rfl rfl (RD.fieldAddr (o := 2) Try.runUnderlying30 rfl rfl Try.sizeOf23 rfl) rfl ?_
        refine TE_l rfl rfl ⟨_, rfl, rfl⟩ rfl (RD.load (i := 1) (v := xe) Try.isAgg23 rfl rfl rfl) rfl ?_
        refine TE_gq rfl rfl rfl rfl (RD.lenX Try.runUnderlying23 rfl hbxe) rfl ?_
        refine TE_gq rfl rfl rfl rfl (RD.fieldAddr (o := 2) Try.runUnderlying30 rfl rfl Try.sizeOf23 rfl) rfl ?_
        refine TE_l rfl rfl ⟨_, rfl, rfl⟩ rfl (RD.load (i := 0) (v := ye) Try.isAgg23 rfl rfl rfl) rfl ?_
        refine TE_gq rfl rfl rfl rfl (RD.lenX Try.runUnderlying23 rfl hbye) rfl ?_
        refine TE_gq rfl rfl rfl rfl (RD.neq rfl rfl) rfl ?_
        refine TE_q rfl rfl (RD.pickF rfl rfl) rfl ?_
        refine TE_q rfl rfl (RD.move rfl) rfl ?_
        refine TE_ndec (fun hf3 => ?_) (fun hf3 => ?_)
        · refine TE_s rfl rfl rfl rfl rfl ?_
          refine TE_s rfl rfl rfl rfl rfl ?_
          refine TE_s rfl rfl rfl rfl rfl ?_
          refine TE_s rfl rfl rfl rfl rfl ?_
          refine TE_s rfl rfl rfl rfl rfl ?_
          refine TE_q rfl rfl (RD.pickT rfl rfl) rfl ?_
          refine TE_q rfl rfl (RD.move rfl) rfl ?_
          refine TE_s rfl rfl rfl rfl rfl ?_
          refine TE_s rfl rfl rfl rfl rfl ?_
          refine TE_s rfl rfl rfl rfl rfl ?_
          refine TE_s rfl rfl rfl rfl rfl ?_
          refine TE_s rfl rfl rfl rfl rfl ?_
          refine TE_q rfl rfl (RD.pickT rfl rfl) rfl ?_
          refine TE_q rfl rfl (RD.move rfl) rfl ?_
          refine TE_s rfl rfl rfl rfl rfl ?_
          refine TE_s rfl rfl rfl rfl rfl ?_
          refine TE_s rfl rfl rfl rfl rfl ?_
          refine TE_s rfl rfl rfl rfl rfl ?_
          refine TE_s rfl rfl rfl rfl rfl ?_
          refine TE_q rfl rfl (RD.pickT rfl rfl) rfl ?_
          refine TE_nil0 ?_
          exact pn_give () trivial ⟨rfl, rfl, congrArg (fun b => some (Value.bool b)) (by first | (simp [hf1, hf2, hf3]; done) | (simp only [decide_eq_true hf1, decide_eq_true hf2, decide_eq_false hf3]; rfl)), trivial⟩ (fun _ hw => hw.sp (fun a => by simp -failIfUnchanged <;> omega))
        · refine TE_gq rfl rfl rfl rfl (RD.fieldAddr (o := 3) Try.runUnderlying30 rfl rfl Try.sizeOf25 rfl) rfl ?_
          refine TE_l rfl rfl ⟨_, rfl, rfl⟩ rfl (RD.loadA (i := 1) (v := idV x.t) Try.isAgg25 Try.sizeOf25 rfl rfl (Nat.le_of_ble_eq_true rfl) (obj_t _ _ _ _)) rfl ?_
          refine TE_gq rfl rfl rfl rfl (RD.fieldAddr (o := 3) Try.runUnderlying30 rfl rfl Try.sizeOf25 rfl) rfl ?_
          refine TE_l rfl rfl ⟨_, rfl, rfl⟩ rfl (RD.loadA (i := 0) (v := idV y.t) Try.isAgg25 Try.sizeOf25 rfl rfl (Nat.le_of_ble_eq_true rfl) (obj_t _ _ _ _)) rfl ?_
          refine TE_gq rfl rfl rfl rfl (RD.neq_agg Try.eqGuardType25 (eq_id x.t y.t) rfl rfl) rfl ?_
          refine TE_q rfl rfl (RD.pickF rfl rfl) rfl ?_
          refine TE_q rfl rfl (RD.move rfl) rfl ?_
          refine TE_bool (fun hf4 => ?_) (fun hf4 => ?_)
          · refine TE_s rfl rfl rfl rfl rfl ?_
            refine TE_s rfl rfl rfl rfl rfl ?_
            refine TE_s rfl rfl rfl rfl rfl ?_
            refine TE_s rfl rfl rfl rfl rfl ?_
            refine TE_s rfl rfl rfl rfl rfl ?_
            refine TE_q rfl rfl (RD.pickT rfl rfl) rfl ?_
            refine TE_q rfl rfl (RD.move rfl) rfl ?_
            refine TE_s rfl rfl rfl rfl rfl ?_
            refine TE_s rfl rfl rfl rfl rfl ?_
            refine TE_s rfl rfl rfl rfl rfl ?_
            refine TE_s rfl rfl rfl rfl rfl ?_
            refine TE_s rfl rfl rfl rfl rfl ?_
            refine TE_q rfl rfl (RD.pickT rfl rfl) rfl ?_
            refine TE_nil0 ?_
            exact pn_give () trivial ⟨rfl, rfl, congrArg (fun b => some (Value.bool b)) (by first | (simp [hf1, hf2, hf3, hf4]; done) | (simp only [decide_eq_true hf1, decide_eq_true hf2, decide_eq_true hf3, hf4]; rfl)), trivial⟩ (fun _ hw => hw.sp (fun a => by simp -failIfUnchanged <;> omega))
          · refine TE_gq rfl rfl rfl rfl (RD.fieldAddr (o := 36) Try.runUnderlying30 rfl rfl Try.sizeOf28 rfl) rfl ?_
            refine TE_l rfl rfl ⟨_, rfl, rfl⟩ rfl (RD.loadA (i := 1) (v := lnkV x.tg) Try.isAgg28 Try.sizeOf28 rfl rfl (Nat.le_of_ble_eq_true rfl) (obj_tg _ _ _ _)) rfl ?_
            refine TE_gq rfl rfl rfl rfl (RD.fieldAddr (o := 36) Try.runUnderlying30 rfl rfl Try.sizeOf28 rfl) rfl ?_
            refine TE_l rfl rfl ⟨_, rfl, rfl⟩ rfl (RD.loadA (i := 0) (v := lnkV y.tg) Try.isAgg28 Try.sizeOf28 rfl rfl (Nat.le_of_ble_eq_true rfl) (obj_tg _ _ _ _)) rfl ?_
            refine TE_gq rfl rfl rfl rfl (RD.neq_agg Try.eqGuardType28 (eq_lnk x.tg y.tg) rfl rfl) rfl ?_
            refine TE_q rfl rfl (RD.pickF rfl rfl) rfl ?_
            refine TE_q rfl rfl (RD.move rfl) rfl ?_
            refine TE_bool (fun hf5 => ?_) (fun hf5 => ?_)
            · refine TE_s rfl rfl rfl rfl rfl ?_
              refine TE_s rfl rfl rfl rfl rfl ?_
              refine TE_s rfl rfl rfl rfl rfl ?_
              refine TE_s rfl rfl rfl rfl rfl ?_
              refine TE_s rfl rfl rfl rfl rfl ?_
              refine TE_q rfl rfl (RD.pickT rfl rfl) rfl ?_
              refine TE_nil0 ?_
              exact pn_give () trivial ⟨rfl, rfl, congrArg (fun b => some (Value.bool b)) (by first | (simp [hf1, hf2, hf3, hf4, hf5]; done) | (simp only [decide_eq_true hf1, decide_eq_true hf2, decide_eq_true hf3, hf4, hf5]; rfl)), trivial⟩ (fun _ hw => hw.sp (fun a => by simp -failIfUnchanged <;> omega))
            · refine TE_gq rfl rfl rfl rfl (RD.fieldAddr (o := 69) Try.runUnderlying30 rfl rfl Try.sizeOf9 rfl) rfl ?_
              refine TE_l rfl rfl ⟨_, rfl, rfl⟩ rfl (RD.load (i := 1) (v := .string x.m) Try.isAgg9 rfl rfl rfl) rfl ?_
              refine TE_gq rfl rfl rfl rfl (RD.fieldAddr (o := 69) Try.runUnderlying30 rfl rfl Try.sizeOf9 rfl) rfl ?_
              refine TE_l rfl rfl ⟨_, rfl, rfl⟩ rfl (RD.load (i := 0) (v := .string y.m) Try.isAgg9 rfl rfl rfl) rfl ?_
              refine TE_gq rfl rfl rfl rfl (RD.neq_string rfl rfl) rfl ?_
              refine TE_q rfl rfl (RD.pickF rfl rfl) rfl ?_
              refine TE_nil0 ?_
              exact pn_give () trivial ⟨rfl, rfl, congrArg (fun b => some (Value.bool b)) (by first | (simp [hf1, hf2, hf3, hf4, hf5]; done) | (simp only [decide_eq_true hf1, decide_eq_true hf2, decide_eq_true hf3, hf4, hf5]; rfl)), trivial⟩ (fun _ hw => hw.sp (fun a => by simp -failIfUnchanged <;> omega))
  rintro _ -
  refine pn_cond rfl (fun hc6 => ?_) (fun hc6 => ?_)
  · simp only [Bool.not_eq_true', Bool.or_eq_true, decide_eq_false_iff_not] at hc6
    refine pn_seq ?_
    refine pn_plainG [] [] rfl (fun a => by simp -failIfUnchanged <;> omega) ?_
    refine TE_q rfl rfl (RD.assign rfl) rfl ?_
    refine TE_nil0 ?_
    refine pn_ret ?_
    exact pn_doneS [] rfl rfl ⟨(congrArg Value.bool (obSame_F hc6)), rfl⟩ (fun _ => Nat.zero_le _) (fun _ he => nomatch he)
  · simp only [Bool.not_eq_false', Bool.or_eq_false_iff, decide_eq_true_eq] at hc6
    refine pn_skip ?_
    refine pn_seq ?_
    refine pn_seq ?_
    refine pn_plain [] rfl ?_
    refine TE_q rfl rfl (RD.assign rfl) rfl ?_
    refine TE_nil0 ?_
    refine pn_block ?_
    refine pn_loopS (σ := Nat) (fun q => [(2, .pointer (some ⟨b2, 0, none⟩)), (3, .pointer (some ⟨b3, 0, none⟩)), (5, .int .i64 (q : Int))]) (fun q => ((b3, .cells (objV y yd ye yp).cells 30 (0, 0)) :: (b2, .cells (objV x xd xe xp).cells 30 (0, 0)) :: HX)) (fun q => (q ≤ x.ents.length) ∧ (∀ j, j < q → same_ent (gt x.ents j) (gt y.ents j) = true)) (fun q => x.ents.length - q) 0 ⟨(by omega), (fun j hj => absurd hj (Nat.not_lt_zero _))⟩ ⟨rfl, rfl, rfl, trivial⟩ (fun a => by simp -failIfUnchanged <;> omega) ?_
    rintro i ⟨hi, hall⟩
    refine pn_seq ?_
    refine pn_seq ?_
    refine pn_plain [3] rfl ?_
    refine TE_q rfl rfl (RD.move rfl) rfl ?_
    refine TE_q rfl rfl (RD.fieldAddr (o := 2) Try.runUnderlying30 rfl rfl Try.sizeOf23 rfl) rfl ?_
    refine TE_l rfl rfl trivial rfl (RD.load (i := 1) (v := xe) Try.isAgg23 rfl rfl rfl) rfl ?_
    refine TE_q rfl rfl (RD.lenX Try.runUnderlying23 rfl hbxe) rfl ?_
    refine TE_q rfl rfl (RD.lss rfl rfl) rfl ?_
    refine TE_nil0 ?_
    refine pn_condD rfl (fun hc7 => ?_) (fun hc7 => ?_)
    · refine pn_skip ?_
      refine pn_seq ?_
      refine pn_block ?_
      refine pn_seq ?_
      refine pn_drawG [1, 4, 6, 9] [] ((b3, .cells (objV y yd ye yp).cells 30 (0, 0)) :: (b2, .cells (objV x xd xe xp).cells 30 (0, 0)) :: HX) rfl rfl (by kernel_rfl) (fun a => by simp -failIfUnchanged <;> omega) ?_
      refine TE_q rfl rfl (RD.fieldAddr (o := 2) Try.runUnderlying30 rfl rfl Try.sizeOf23 rfl) rfl ?_
      refine TE_q rfl rfl (RD.load (i := 1) (v := xe) Try.isAgg23 rfl rfl rfl) rfl ?_
      refine TE_q rfl rfl (RD.move rfl) rfl ?_
      refine TE_q rfl rfl (RD.idxR (i := i) (o := (i * 34 + 0)) Try.runUnderlying23 Try.sizeOf38 rfl hbxe rfl rfl (by omega) (by rfl)) rfl ?_
      refine TE_q rfl rfl (RD.ldRA (i := i) (j := 0) (vs := (entC (gt x.ents i))) Try.isAgg38 Try.sizeOf38 rfl hbxe (gt_some (by omega)) (by rfl) rfl (fun _ _ hu => by rw [Nat.zero_add]; exact hu) (entC_agg _) (fun _ hw => hw.sp (fun a => by simp -failIfUnchanged <;> omega))) rfl ?_
      refine TE_q rfl rfl (RD.fieldAddr (o := 2) Try.runUnderlying30 rfl rfl Try.sizeOf23 rfl) rfl ?_
      refine TE_q rfl rfl (RD.load (i := 0) (v := ye) Try.isAgg23 rfl rfl rfl) rfl ?_
      refine TE_q rfl rfl (RD.move rfl) rfl ?_
      refine TE_q rfl rfl (RD.idxR (i := i) (o := (i * 34 + 0)) Try.runUnderlying23 Try.sizeOf38 rfl hbye rfl rfl (by omega) (by rfl)) rfl ?_
      refine TE_q rfl rfl (RD.ldRA (i := i) (j := 0) (vs := (entC (gt y.ents i))) Try.isAgg38 Try.sizeOf38 rfl hbye (gt_some (by omega)) (by rfl) rfl (fun _ _ hu => by rw [Nat.zero_add]; exact hu) (entC_agg _) (fun _ hw => hw.sp (fun a => by simp -failIfUnchanged <;> omega))) rfl ?_
      refine TE_q rfl rfl (RD.neq_agg Try.eqGuardType38 (eq_ent (gt x.ents i) (gt y.ents i)) rfl rfl) rfl ?_
      refine TE_nil ?_
      refine pn_cond rfl (fun hc8 => ?_) (fun hc8 => ?_)
      · simp only [Bool.not_eq_true'] at hc8
        refine pn_seq ?_
        refine pn_plainG [] [] rfl (fun a => by simp -failIfUnchanged <;> omega) ?_
        refine TE_q rfl rfl (RD.assign rfl) rfl ?_
        refine TE_nil0 ?_
        refine pn_ret ?_
        exact pn_doneS [] rfl rfl ⟨(congrArg Value.bool (obSame_F2 (i := i) (by omega) (by omega) (by assumption))), rfl⟩ (fun _ => Nat.zero_le _) (fun _ he => nomatch he)
      · simp only [Bool.not_eq_false'] at hc8
        refine pn_skip ?_
        refine pn_plainG [] ((b3, .cells (objV y yd ye yp).cells 30 (0, 0)) :: (b2, .cells (objV x xd xe xp).cells 30 (0, 0)) :: HX) rfl (fun a => by simp -failIfUnchanged <;> omega) ?_
        refine TE_q rfl rfl (RD.move rfl) rfl ?_
        refine TE_q rfl rfl (RD.addI rfl rfl (by omega) (by omega)) rfl ?_
        refine TE_q rfl rfl (RD.assign rfl) rfl ?_
        refine TE_nil0 ?_
        exact pn_againS (i + 1) ⟨(by omega), (fun j hj => (by rcases Nat.lt_or_ge j i with h | h; exact hall j h; obtain rfl : j = i := (by omega); assumption))⟩ (by omega) ⟨rfl, rfl, rfl, trivial⟩ (fun a => by simp -failIfUnchanged <;> omega)
    · refine pn_exit ?_
      refine pn_seq ?_
      refine pn_plain [] rfl ?_
      refine TE_q rfl rfl (RD.fieldAddr (o := 35) Try.runUnderlying30 rfl rfl Try.sizeOf26 rfl) rfl ?_
      refine TE_l rfl rfl trivial rfl (RD.load (i := 1) (v := xp) Try.isAgg26 rfl rfl rfl) rfl ?_
      refine TE_q rfl rfl (RD.fieldAddr (o := 35) Try.runUnderlying30 rfl rfl Try.sizeOf26 rfl) rfl ?_
      refine TE_l rfl rfl trivial rfl (RD.load (i := 0) (v := yp) Try.isAgg26 rfl rfl rfl) rfl ?_
      refine TE_callG _ HX rfl rfl trivial Try.call21 rfl rfl rfl (fun w hw => c_r3Same HX xp yp x.pars y.pars w (hbxp.mono (fun _ hw => hw.sp (fun a => by simp -failIfUnchanged <;> omega))) (hbyp.mono (fun _ hw => hw.sp (fun a => by simp -failIfUnchanged <;> omega))) (by first | assumption | omega | (simp; omega)) (hw.sp (fun a => by simp -failIfUnchanged <;> omega))) (fun a => by simp -failIfUnchanged <;> omega) ?_
      rintro v9 H10 ⟨rfl, rfl⟩ -
      refine TE_q rfl rfl (RD.assign rfl) rfl ?_
      refine TE_nil0 ?_
      refine pn_ret ?_
      exact pn_doneS [] rfl rfl ⟨(congrArg Value.bool (obSame_T hc6 fun j hj => hall j (by omega))), rfl⟩ (fun _ => Nat.zero_le _) (fun _ he => nomatch he)

end Go.Proofs.Ytjdjlcmajeikcaa
