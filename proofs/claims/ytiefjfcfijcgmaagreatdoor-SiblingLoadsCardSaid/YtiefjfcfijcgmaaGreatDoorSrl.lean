import Derived.Test.YtiefjfcfijcgmaaGreatDoorSld
namespace Go.Proofs.YtiefjfcfijcgmaaGreatDoor
open Go Go.Mv
set_option maxRecDepth 8000
theorem cmp05_m1 {s c s' c' : Int} : cmp05 s c s' c' = -1 ↔ dotCmp s c s' c' < 0 := by
  rw [dotCmp_lt, ← cmp05_neg]
  unfold cmp05; split
  · simp
  · split <;> simp
theorem bldVx_cells {α : Type} (l : List α) (st : SnkS) : (bldVx l st).cells.toList = [bldVx l st] := by
  rcases st with _ | ⟨b, c, tl⟩ <;> rfl
theorem bldVx_one {α : Type} (l : List α) (st : SnkS) : (bldVx l st).oneCell' = true := by
  rcases st with _ | ⟨b, c, tl⟩ <;> rfl

set_option maxHeartbeats 2000000 in
theorem c_r19Load (HX : Mem) (v : Value) (l : List Rec) (w : World) (hb : Rdx 52 recC HX v l) (hok : ∀ r ∈ l, RecOk r) (hlen : l.length ≤ 1000000) (hH : Hp HX w) : Calls Tryz.prog 11 #[v] w (Ret w [] fun r H1 => (∃ bs st, BldOk 52 recC l st ∧ loadOk l ∧ r = .tuple #[.pointer (some ⟨bs, 0, none⟩), .int .i64 0] ∧ H1 = (bs, .cells #[.string (refL l), bldVx l st] 89 (0, 0)) :: bldMx 40 recC l st) ∨ (¬ loadOk l ∧ r = .tuple #[.pointer none, .int .i64 190] ∧ H1 = [])) := by
  refine fn_enter (args := [_]) Tryz.func11 rfl Tryz.ntmps11 rfl hH ?_
  refine pn_seq ?_
  refine pn_plain [] rfl ?_
  refine TE_q rfl rfl (RD.assign rfl) rfl ?_
  refine TE_q rfl rfl (RD.assign rfl) rfl ?_
  refine TE_nil0 ?_
  refine pn_seq ?_
  refine pn_seq ?_
  refine pn_plain [1] rfl ?_
  refine TE_q rfl rfl (RD.move rfl) rfl ?_
  refine TE_q rfl rfl (RD.lenX Tryz.runUnderlying22 rfl hb) rfl ?_
  refine TE_q rfl rfl (RD.eql rfl rfl) rfl ?_
  refine TE_nil0 ?_
  first | refine pn_condD rfl (fun hc0 => ?_) (fun hc0 => ?_) | refine pn_condN rfl (fun hc0 => ?_) (fun hc0 => ?_) | refine pn_cond rfl (fun hc0 => ?_) (fun hc0 => ?_)
  · refine pn_seq ?_
    refine pn_plain [] rfl ?_
    refine TE_q rfl rfl (RD.assign rfl) rfl ?_
    refine TE_q rfl rfl (RD.assign rfl) rfl ?_
    refine TE_nil0 ?_
    refine pn_ret ?_
    exact pn_done (H1 := []) rfl rfl (.inr ⟨fun h => h.1 (List.eq_nil_of_length_eq_zero (by omega)), rfl, rfl⟩) (List.nil_sublist _) (by simp)
  · refine pn_skip ?_
    refine pn_seq ?_
    refine pn_seq ?_
    refine pn_plain [] rfl ?_
    refine TE_q rfl rfl (RD.assign rfl) rfl ?_
    refine TE_nil0 ?_
    refine pn_block ?_
    refine pn_loop (σ := Nat) (fun i => [(4, .int .i64 (i : Int)), (0, v)]) (fun _ => HX) (fun i => i ≤ l.length ∧ ∀ (j : Nat) (x : Rec), j < i → l[j]? = some x → loadP l j x) (fun i => l.length - i) 0 ⟨Nat.zero_le _, fun _ _ h => absurd h (by omega)⟩ ⟨rfl, rfl, trivial⟩ (List.Sublist.refl _) ?_
    rintro i ⟨hi, hall⟩
    refine pn_seq ?_
    refine pn_seq ?_
    refine pn_plain [2] rfl ?_
    refine TE_q rfl rfl (RD.move rfl) rfl ?_
    refine TE_q rfl rfl (RD.move rfl) rfl ?_
    refine TE_q rfl rfl (RD.lenX Tryz.runUnderlying22 rfl hb) rfl ?_
    refine TE_q rfl rfl (RD.lss rfl rfl) rfl ?_
    refine TE_nil0 ?_
    first | refine pn_condD rfl (fun hc1 => ?_) (fun hc1 => ?_) | refine pn_condN rfl (fun hc1 => ?_) (fun hc1 => ?_) | refine pn_cond rfl (fun hc1 => ?_) (fun hc1 => ?_)
    · refine pn_skip ?_
      refine pn_seq ?_
      refine pn_block ?_
      refine pn_seq ?_
      refine pn_seq ?_
      have hlt : i < l.length := (by omega); have hq9 : ∃ x, l[i]? = some x := ⟨_, List.getElem?_eq_getElem hlt⟩; obtain ⟨x, hx⟩ := hq9; have hq9 := hb.at hx; obtain ⟨b, off, cap, hv, hcap, hcell⟩ := hq9; have hq9 : ∃ z, l[0]? = some z := ⟨_, List.getElem?_eq_getElem (by omega)⟩; obtain ⟨z, hz⟩ := hq9; have hq9 := hb.at hz; obtain ⟨bz, offz, capz, hvz, hcapz, hcellz⟩ := hq9; have hq9 : ∃ p, l[i - 1]? = some p := ⟨_, List.getElem?_eq_getElem (by omega)⟩; obtain ⟨p, hp⟩ := hq9; have hq9 := hb.at hp; obtain ⟨bp, offp, capp, hvp, hcapp, hcellp⟩ := hq9; have hxo := hok x (List.mem_of_getElem? hx); have hrz := refL_0 hz
      refine pn_drawT [3, 11, 15] [] [] [] HX rfl rfl (by kernel_rfl) (by kernel_rfl) rfl rfl ?_
      refine TE_q rfl rfl (RD.move rfl) rfl ?_
      refine TE_q rfl rfl (RD.move rfl) rfl ?_
      refine TE_q rfl rfl (RD.indexX (i := i) Tryz.runUnderlying22 Tryz.sizeOf40 (congrArg some hv) rfl rfl hlt) rfl ?_
      refine TE_q rfl rfl (RD.as (v := recV x) (RD.loadX (vs := recC x) Tryz.isAgg40 Tryz.sizeOf40 rfl rfl (fun w hw j u hu => hcell w (hw.sp (fun a => by simp -failIfUnchanged <;> omega)) j u hu)) (recC_agg _)) rfl ?_
      refine TE_call rfl rfl trivial Tryz.call43 rfl rfl rfl (fun w hs' => c_r12Check x w hxo) ?_
      rintro v21 H4 ⟨rfl, rfl⟩ -
      refine TE_q rfl rfl (RD.neq rfl rfl) rfl ?_
      refine TE_q rfl rfl (RD.move rfl) rfl ?_
      (first | refine TE_isT ?_ | refine TE_isF ?_ | refine TE_dec (fun h606 => ?_) (fun h606 => ?_) | refine TE_ndec (fun h606 => ?_) (fun h606 => ?_) | refine TE_bool (fun h606 => ?_) (fun h606 => ?_))
      all_goals (first | (refine TE_s rfl rfl rfl rfl rfl ?_) | (refine TE_gq rfl rfl rfl rfl (RD.move rfl) rfl ?_))
      all_goals (first | (refine TE_s rfl rfl rfl rfl rfl ?_) | (refine TE_gq rfl rfl rfl rfl (RD.move rfl) rfl ?_))
      all_goals (first | (refine TE_s rfl rfl rfl rfl rfl ?_) | (refine TE_gq rfl rfl rfl rfl (RD.indexX (i := i) Tryz.runUnderlying22 Tryz.sizeOf40 (congrArg some hv) rfl rfl hlt) rfl ?_))
      all_goals (first | (refine TE_s rfl rfl rfl rfl rfl ?_) | (refine TE_gq rfl rfl rfl rfl (RD.fieldAddr (o := off + i * 52 + 18) Tryz.runUnderlying40 rfl rfl Tryz.sizeOf9 rfl) rfl ?_))
      all_goals (first | (refine TE_s rfl rfl rfl rfl rfl ?_) | (refine TE_gq rfl rfl rfl rfl (RD.loadC Tryz.isAgg9 rfl (fun w hw => hcell w (hw.sp (fun a => by simp -failIfUnchanged <;> omega)) 18 _ rfl)) rfl ?_))
      all_goals (first | (refine TE_s rfl rfl rfl rfl rfl ?_) | (refine TE_gq rfl rfl rfl rfl (RD.move rfl) rfl ?_))
      all_goals (first | (refine TE_s rfl rfl rfl rfl rfl ?_) | (refine TE_gq rfl rfl rfl rfl (RD.indexX (i := 0) Tryz.runUnderlying22 Tryz.sizeOf40 (congrArg some hvz) rfl rfl (by omega)) rfl ?_))
      all_goals (first | (refine TE_s rfl rfl rfl rfl rfl ?_) | (refine TE_gq rfl rfl rfl rfl (RD.fieldAddr (o := offz + 0 * 52 + 18) Tryz.runUnderlying40 rfl rfl Tryz.sizeOf9 rfl) rfl ?_))
      all_goals (first | (refine TE_s rfl rfl rfl rfl rfl ?_) | (refine TE_gq rfl rfl rfl rfl (RD.loadC Tryz.isAgg9 rfl (fun w hw => hcellz w (hw.sp (fun a => by simp -failIfUnchanged <;> omega)) 18 _ rfl)) rfl ?_))
      all_goals (first | (refine TE_s rfl rfl rfl rfl rfl ?_) | (refine TE_gq rfl rfl rfl rfl (RD.neq_string rfl rfl) rfl ?_))
      all_goals (first | (refine TE_q rfl rfl (RD.pickT rfl rfl) rfl ?_) | (refine TE_q rfl rfl (RD.pickF rfl rfl) rfl ?_))
      all_goals refine TE_nil ?_
      all_goals first
        | (
            refine pn_condT rfl ?_
            refine pn_seq ?_
            refine pn_plain [] rfl ?_
            refine TE_q rfl rfl (RD.assign rfl) rfl ?_
            refine TE_q rfl rfl (RD.assign rfl) rfl ?_
            refine TE_nil0 ?_
            refine pn_ret ?_
            exact pn_done (H1 := []) rfl rfl (.inr ⟨fun h => by obtain ⟨p1, p2, p3, p4⟩ := h.2 i x hx; first | exact absurd (show err (recOkB x) 120 = 0 by rw [p1]; rfl) (by assumption) | exact absurd (p2.trans hrz) (by assumption) | exact absurd (cmp05_m1.2 (p3 (i - 1) p (by omega) hp)) (by assumption) | (have h9 := p4 y (List.mem_of_getElem? hy); simp_all), rfl, rfl⟩) (List.nil_sublist _) (by simp))
        | (
            refine pn_condF rfl ?_
            refine pn_skip ?_
            refine pn_seq ?_
            refine pn_seq ?_
            refine pn_drawT [8, 13] [] [] [] HX rfl rfl (by kernel_rfl) (by kernel_rfl) rfl rfl ?_
            refine TE_q rfl rfl (RD.move rfl) rfl ?_
            refine TE_q rfl rfl (RD.gtr rfl rfl) rfl ?_
            refine TE_q rfl rfl (RD.move rfl) rfl ?_
            (first | refine TE_isT ?_ | refine TE_isF ?_ | refine TE_dec (fun h802 => ?_) (fun h802 => ?_) | refine TE_ndec (fun h802 => ?_) (fun h802 => ?_) | refine TE_bool (fun h802 => ?_) (fun h802 => ?_))
            all_goals (first | (refine TE_s rfl rfl rfl rfl rfl ?_) | (refine TE_gq rfl rfl rfl rfl (RD.move rfl) rfl ?_))
            all_goals (first | (refine TE_s rfl rfl rfl rfl rfl ?_) | (refine TE_gq rfl rfl rfl rfl (RD.move rfl) rfl ?_))
            all_goals (first | (refine TE_s rfl rfl rfl rfl rfl ?_) | (refine TE_gq rfl rfl rfl rfl (RD.subI rfl rfl (by omega) (by omega)) rfl ?_))
            all_goals (first | (refine TE_s rfl rfl rfl rfl rfl ?_) | (refine TE_gq rfl rfl rfl rfl (RD.indexX (i := i - 1) Tryz.runUnderlying22 Tryz.sizeOf40 (congrArg some hvp) rfl (by omega) (by omega)) rfl ?_))
            all_goals (first | (refine TE_s rfl rfl rfl rfl rfl ?_) | (refine TE_gq rfl rfl rfl rfl (RD.fieldAddr (o := offp + (i - 1) * 52) Tryz.runUnderlying40 rfl rfl Tryz.sizeOf33 rfl) rfl ?_))
            all_goals (first | (refine TE_s rfl rfl rfl rfl rfl ?_) | (refine TE_gq rfl rfl rfl rfl (RD.as (v := dotV p.s p.c) (RD.loadX (vs := dotC p) Tryz.isAgg33 Tryz.sizeOf33 rfl rfl (fun w hw j u hu => hcellp w (hw.sp (fun a => by simp -failIfUnchanged <;> omega)) j u (dotC_in hu))) (dotC_agg _)) rfl ?_))
            all_goals (first | (refine TE_s rfl rfl rfl rfl rfl ?_) | (refine TE_gq rfl rfl rfl rfl (RD.move rfl) rfl ?_))
            all_goals (first | (refine TE_s rfl rfl rfl rfl rfl ?_) | (refine TE_gq rfl rfl rfl rfl (RD.move rfl) rfl ?_))
            all_goals (first | (refine TE_s rfl rfl rfl rfl rfl ?_) | (refine TE_gq rfl rfl rfl rfl (RD.indexX (i := i) Tryz.runUnderlying22 Tryz.sizeOf40 (congrArg some hv) rfl rfl hlt) rfl ?_))
            all_goals (first | (refine TE_s rfl rfl rfl rfl rfl ?_) | (refine TE_gq rfl rfl rfl rfl (RD.fieldAddr (o := off + i * 52) Tryz.runUnderlying40 rfl rfl Tryz.sizeOf33 rfl) rfl ?_))
            all_goals (first | (refine TE_s rfl rfl rfl rfl rfl ?_) | (refine TE_gq rfl rfl rfl rfl (RD.as (v := dotV x.s x.c) (RD.loadX (vs := dotC x) Tryz.isAgg33 Tryz.sizeOf33 rfl rfl (fun w hw j u hu => hcell w (hw.sp (fun a => by simp -failIfUnchanged <;> omega)) j u (dotC_in hu))) (dotC_agg _)) rfl ?_))
            all_goals (first | (refine TE_s rfl rfl rfl rfl rfl ?_) | ((refine TE_call rfl rfl ⟨_, rfl, rfl⟩ Tryz.call44 rfl rfl rfl (fun w hs' => c_r5Cmp p.s p.c x.s x.c w) ?_; rintro v49 H14 ⟨rfl, rfl⟩ -)))
            all_goals (first | (refine TE_s rfl rfl rfl rfl rfl ?_) | (refine TE_gq rfl rfl rfl rfl (RD.neq rfl rfl) rfl ?_))
            all_goals (first | (refine TE_q rfl rfl (RD.pickT rfl rfl) rfl ?_) | (refine TE_q rfl rfl (RD.pickF rfl rfl) rfl ?_))
            all_goals refine TE_nil ?_
            all_goals first
              | (
                  refine pn_condT rfl ?_
                  refine pn_seq ?_
                  refine pn_plain [] rfl ?_
                  refine TE_q rfl rfl (RD.assign rfl) rfl ?_
                  refine TE_q rfl rfl (RD.assign rfl) rfl ?_
                  refine TE_nil0 ?_
                  refine pn_ret ?_
                  exact pn_done (H1 := []) rfl rfl (.inr ⟨fun h => by obtain ⟨p1, p2, p3, p4⟩ := h.2 i x hx; first | exact absurd (show err (recOkB x) 120 = 0 by rw [p1]; rfl) (by assumption) | exact absurd (p2.trans hrz) (by assumption) | exact absurd (cmp05_m1.2 (p3 (i - 1) p (by omega) hp)) (by assumption) | (have h9 := p4 y (List.mem_of_getElem? hy); simp_all), rfl, rfl⟩) (List.nil_sublist _) (by simp))
              | (
                  refine pn_condF rfl ?_
                  refine pn_skip ?_
                  refine pn_seq ?_
                  refine pn_plain [] rfl ?_
                  refine TE_q rfl rfl (RD.assign rfl) rfl ?_
                  refine TE_nil0 ?_
                  refine pn_block ?_
                  refine pn_loopS (σ := Nat) (fun k => [(5, .int .i64 (k : Int)), (4, .int .i64 (i : Int)), (0, v)]) (fun _ => HX) (fun k => k ≤ l.length ∧ ∀ (j : Nat) (y : Rec), j < k → l[j]? = some y → outdoesB x y = false) (fun k => l.length - k) 0 ⟨Nat.zero_le _, fun _ _ h => absurd h (by omega)⟩ ⟨rfl, rfl, rfl, trivial⟩ (fun a => by simp -failIfUnchanged <;> omega) ?_
                  rintro k ⟨hk, hout⟩
                  refine pn_seq ?_
                  refine pn_seq ?_
                  refine pn_plain [2] rfl ?_
                  refine TE_q rfl rfl (RD.move rfl) rfl ?_
                  refine TE_q rfl rfl (RD.move rfl) rfl ?_
                  refine TE_q rfl rfl (RD.lenX Tryz.runUnderlying22 rfl hb) rfl ?_
                  refine TE_q rfl rfl (RD.lss rfl rfl) rfl ?_
                  refine TE_nil0 ?_
                  first | refine pn_condD rfl (fun hc4 => ?_) (fun hc4 => ?_) | refine pn_condN rfl (fun hc4 => ?_) (fun hc4 => ?_) | refine pn_cond rfl (fun hc4 => ?_) (fun hc4 => ?_)
                  · refine pn_skip ?_
                    refine pn_seq ?_
                    refine pn_block ?_
                    refine pn_seq ?_
                    have hq9 : ∃ y, l[k]? = some y := ⟨_, List.getElem?_eq_getElem (by omega)⟩; obtain ⟨y, hy⟩ := hq9; have hq9 := hb.at hy; obtain ⟨by9, offy, capy, hvy, hcapy, hcelly⟩ := hq9
                    refine pn_drawT [3, 7] [] [] [] HX rfl rfl (by kernel_rfl) (by kernel_rfl) rfl rfl ?_
                    refine TE_q rfl rfl (RD.move rfl) rfl ?_
                    refine TE_q rfl rfl (RD.move rfl) rfl ?_
                    refine TE_q rfl rfl (RD.indexX (i := i) Tryz.runUnderlying22 Tryz.sizeOf40 (congrArg some hv) rfl rfl hlt) rfl ?_
                    refine TE_q rfl rfl (RD.as (v := recV x) (RD.loadX (vs := recC x) Tryz.isAgg40 Tryz.sizeOf40 rfl rfl (fun w hw j u hu => hcell w (hw.sp (fun a => by simp -failIfUnchanged <;> omega)) j u hu)) (recC_agg _)) rfl ?_
                    refine TE_q rfl rfl (RD.move rfl) rfl ?_
                    refine TE_q rfl rfl (RD.move rfl) rfl ?_
                    refine TE_q rfl rfl (RD.indexX (i := k) Tryz.runUnderlying22 Tryz.sizeOf40 (congrArg some hvy) rfl rfl (by omega)) rfl ?_
                    refine TE_q rfl rfl (RD.as (v := recV y) (RD.loadX (vs := recC y) Tryz.isAgg40 Tryz.sizeOf40 rfl rfl (fun w hw j u hu => hcelly w (hw.sp (fun a => by simp -failIfUnchanged <;> omega)) j u hu)) (recC_agg _)) rfl ?_
                    refine TE_call rfl rfl trivial Tryz.call45 rfl rfl rfl (fun w hs' => c_r12Outdoes x y w hxo) ?_
                    rintro v66 H8 ⟨rfl, rfl⟩ -
                    refine TE_q rfl rfl (RD.assign rfl) rfl ?_
                    refine TE_nil ?_
                    refine pn_seq ?_
                    refine pn_plain [] rfl ?_
                    refine TE_q rfl rfl (RD.move rfl) rfl ?_
                    refine TE_nil0 ?_
                    first | refine pn_condD rfl (fun hc5 => ?_) (fun hc5 => ?_) | refine pn_condN rfl (fun hc5 => ?_) (fun hc5 => ?_) | refine pn_cond rfl (fun hc5 => ?_) (fun hc5 => ?_)
                    · refine pn_seq ?_
                      refine pn_plain [] rfl ?_
                      refine TE_q rfl rfl (RD.assign rfl) rfl ?_
                      refine TE_q rfl rfl (RD.assign rfl) rfl ?_
                      refine TE_nil0 ?_
                      refine pn_ret ?_
                      exact pn_done (H1 := []) rfl rfl (.inr ⟨fun h => by obtain ⟨p1, p2, p3, p4⟩ := h.2 i x hx; first | exact absurd (show err (recOkB x) 120 = 0 by rw [p1]; rfl) (by assumption) | exact absurd (p2.trans hrz) (by assumption) | exact absurd (cmp05_m1.2 (p3 (i - 1) p (by omega) hp)) (by assumption) | (have h9 := p4 y (List.mem_of_getElem? hy); simp_all), rfl, rfl⟩) (List.nil_sublist _) (by simp)
                    · refine pn_skip ?_
                      refine pn_plain [] rfl ?_
                      refine TE_q rfl rfl (RD.move rfl) rfl ?_
                      refine TE_q rfl rfl (RD.addI rfl rfl (by omega) (by omega)) rfl ?_
                      refine TE_q rfl rfl (RD.assign rfl) rfl ?_
                      refine TE_nil0 ?_
                      (exact pn_againS (k + 1) ⟨by omega, fun j y' h hy' => by rcases Nat.lt_succ_iff_lt_or_eq.1 h with h | rfl; exact hout j y' h hy'; rw [hy] at hy'; cases hy'; simpa using hc5⟩ (by show l.length - (k + 1) < l.length - k; omega) ⟨rfl, rfl, rfl, trivial⟩ (fun a => by simp -failIfUnchanged <;> omega))
                  · refine pn_exit ?_
                    refine pn_plain [] rfl ?_
                    refine TE_q rfl rfl (RD.move rfl) rfl ?_
                    refine TE_q rfl rfl (RD.addI rfl rfl (by omega) (by omega)) rfl ?_
                    refine TE_q rfl rfl (RD.assign rfl) rfl ?_
                    refine TE_nil0 ?_
                    (exact pn_againS (i + 1) ⟨by omega, fun j y h hy => by rcases Nat.lt_succ_iff_lt_or_eq.1 h with h | rfl; exact hall j y h hy; rw [hx] at hy; cases hy; exact ⟨err0 (by assumption), by rw [hrz]; assumption, fun j y hj hy => by subst hj; rw [show j + 1 - 1 = j from by omega] at hp; rw [hy] at hp; cases hp; first | exact cmp05_m1.1 (by assumption) | (exfalso; omega), fun y hy => by obtain ⟨j, hj⟩ := List.mem_iff_getElem?.1 hy; exact hout j y (by have := (List.getElem?_eq_some_iff.1 hj).1; omega) hj⟩⟩ (by show l.length - (i + 1) < l.length - i; omega) ⟨rfl, rfl, trivial⟩ (fun a => by simp -failIfUnchanged <;> omega)))
              | (
                  first | refine pn_condD rfl (fun hc3 => ?_) (fun hc3 => ?_) | refine pn_condN rfl (fun hc3 => ?_) (fun hc3 => ?_) | refine pn_cond rfl (fun hc3 => ?_) (fun hc3 => ?_)
                  · refine pn_seq ?_
                    refine pn_plain [] rfl ?_
                    refine TE_q rfl rfl (RD.assign rfl) rfl ?_
                    refine TE_q rfl rfl (RD.assign rfl) rfl ?_
                    refine TE_nil0 ?_
                    refine pn_ret ?_
                    exact pn_done (H1 := []) rfl rfl (.inr ⟨fun h => by obtain ⟨p1, p2, p3, p4⟩ := h.2 i x hx; first | exact absurd (show err (recOkB x) 120 = 0 by rw [p1]; rfl) (by assumption) | exact absurd (p2.trans hrz) (by assumption) | exact absurd (cmp05_m1.2 (p3 (i - 1) p (by omega) hp)) (by assumption) | (have h9 := p4 y (List.mem_of_getElem? hy); simp_all), rfl, rfl⟩) (List.nil_sublist _) (by simp)
                  · refine pn_skip ?_
                    refine pn_seq ?_
                    refine pn_plain [] rfl ?_
                    refine TE_q rfl rfl (RD.assign rfl) rfl ?_
                    refine TE_nil0 ?_
                    refine pn_block ?_
                    refine pn_loopS (σ := Nat) (fun k => [(5, .int .i64 (k : Int)), (4, .int .i64 (i : Int)), (0, v)]) (fun _ => HX) (fun k => k ≤ l.length ∧ ∀ (j : Nat) (y : Rec), j < k → l[j]? = some y → outdoesB x y = false) (fun k => l.length - k) 0 ⟨Nat.zero_le _, fun _ _ h => absurd h (by omega)⟩ ⟨rfl, rfl, rfl, trivial⟩ (fun a => by simp -failIfUnchanged <;> omega) ?_
                    rintro k ⟨hk, hout⟩
                    refine pn_seq ?_
                    refine pn_seq ?_
                    refine pn_plain [2] rfl ?_
                    refine TE_q rfl rfl (RD.move rfl) rfl ?_
                    refine TE_q rfl rfl (RD.move rfl) rfl ?_
                    refine TE_q rfl rfl (RD.lenX Tryz.runUnderlying22 rfl hb) rfl ?_
                    refine TE_q rfl rfl (RD.lss rfl rfl) rfl ?_
                    refine TE_nil0 ?_
                    first | refine pn_condD rfl (fun hc4 => ?_) (fun hc4 => ?_) | refine pn_condN rfl (fun hc4 => ?_) (fun hc4 => ?_) | refine pn_cond rfl (fun hc4 => ?_) (fun hc4 => ?_)
                    · refine pn_skip ?_
                      refine pn_seq ?_
                      refine pn_block ?_
                      refine pn_seq ?_
                      have hq9 : ∃ y, l[k]? = some y := ⟨_, List.getElem?_eq_getElem (by omega)⟩; obtain ⟨y, hy⟩ := hq9; have hq9 := hb.at hy; obtain ⟨by9, offy, capy, hvy, hcapy, hcelly⟩ := hq9
                      refine pn_drawT [3, 7] [] [] [] HX rfl rfl (by kernel_rfl) (by kernel_rfl) rfl rfl ?_
                      refine TE_q rfl rfl (RD.move rfl) rfl ?_
                      refine TE_q rfl rfl (RD.move rfl) rfl ?_
                      refine TE_q rfl rfl (RD.indexX (i := i) Tryz.runUnderlying22 Tryz.sizeOf40 (congrArg some hv) rfl rfl hlt) rfl ?_
                      refine TE_q rfl rfl (RD.as (v := recV x) (RD.loadX (vs := recC x) Tryz.isAgg40 Tryz.sizeOf40 rfl rfl (fun w hw j u hu => hcell w (hw.sp (fun a => by simp -failIfUnchanged <;> omega)) j u hu)) (recC_agg _)) rfl ?_
                      refine TE_q rfl rfl (RD.move rfl) rfl ?_
                      refine TE_q rfl rfl (RD.move rfl) rfl ?_
                      refine TE_q rfl rfl (RD.indexX (i := k) Tryz.runUnderlying22 Tryz.sizeOf40 (congrArg some hvy) rfl rfl (by omega)) rfl ?_
                      refine TE_q rfl rfl (RD.as (v := recV y) (RD.loadX (vs := recC y) Tryz.isAgg40 Tryz.sizeOf40 rfl rfl (fun w hw j u hu => hcelly w (hw.sp (fun a => by simp -failIfUnchanged <;> omega)) j u hu)) (recC_agg _)) rfl ?_
                      refine TE_call rfl rfl trivial Tryz.call45 rfl rfl rfl (fun w hs' => c_r12Outdoes x y w hxo) ?_
                      rintro v66 H8 ⟨rfl, rfl⟩ -
                      refine TE_q rfl rfl (RD.assign rfl) rfl ?_
                      refine TE_nil ?_
                      refine pn_seq ?_
                      refine pn_plain [] rfl ?_
                      refine TE_q rfl rfl (RD.move rfl) rfl ?_
                      refine TE_nil0 ?_
                      first | refine pn_condD rfl (fun hc5 => ?_) (fun hc5 => ?_) | refine pn_condN rfl (fun hc5 => ?_) (fun hc5 => ?_) | refine pn_cond rfl (fun hc5 => ?_) (fun hc5 => ?_)
                      · refine pn_seq ?_
                        refine pn_plain [] rfl ?_
                        refine TE_q rfl rfl (RD.assign rfl) rfl ?_
                        refine TE_q rfl rfl (RD.assign rfl) rfl ?_
                        refine TE_nil0 ?_
                        refine pn_ret ?_
                        exact pn_done (H1 := []) rfl rfl (.inr ⟨fun h => by obtain ⟨p1, p2, p3, p4⟩ := h.2 i x hx; first | exact absurd (show err (recOkB x) 120 = 0 by rw [p1]; rfl) (by assumption) | exact absurd (p2.trans hrz) (by assumption) | exact absurd (cmp05_m1.2 (p3 (i - 1) p (by omega) hp)) (by assumption) | (have h9 := p4 y (List.mem_of_getElem? hy); simp_all), rfl, rfl⟩) (List.nil_sublist _) (by simp)
                      · refine pn_skip ?_
                        refine pn_plain [] rfl ?_
                        refine TE_q rfl rfl (RD.move rfl) rfl ?_
                        refine TE_q rfl rfl (RD.addI rfl rfl (by omega) (by omega)) rfl ?_
                        refine TE_q rfl rfl (RD.assign rfl) rfl ?_
                        refine TE_nil0 ?_
                        (exact pn_againS (k + 1) ⟨by omega, fun j y' h hy' => by rcases Nat.lt_succ_iff_lt_or_eq.1 h with h | rfl; exact hout j y' h hy'; rw [hy] at hy'; cases hy'; simpa using hc5⟩ (by show l.length - (k + 1) < l.length - k; omega) ⟨rfl, rfl, rfl, trivial⟩ (fun a => by simp -failIfUnchanged <;> omega))
                    · refine pn_exit ?_
                      refine pn_plain [] rfl ?_
                      refine TE_q rfl rfl (RD.move rfl) rfl ?_
                      refine TE_q rfl rfl (RD.addI rfl rfl (by omega) (by omega)) rfl ?_
                      refine TE_q rfl rfl (RD.assign rfl) rfl ?_
                      refine TE_nil0 ?_
                      (exact pn_againS (i + 1) ⟨by omega, fun j y h hy => by rcases Nat.lt_succ_iff_lt_or_eq.1 h with h | rfl; exact hall j y h hy; rw [hx] at hy; cases hy; exact ⟨err0 (by assumption), by rw [hrz]; assumption, fun j y hj hy => by subst hj; rw [show j + 1 - 1 = j from by omega] at hp; rw [hy] at hp; cases hp; first | exact cmp05_m1.1 (by assumption) | (exfalso; omega), fun y hy => by obtain ⟨j, hj⟩ := List.mem_iff_getElem?.1 hy; exact hout j y (by have := (List.getElem?_eq_some_iff.1 hj).1; omega) hj⟩⟩ (by show l.length - (i + 1) < l.length - i; omega) ⟨rfl, rfl, trivial⟩ (fun a => by simp -failIfUnchanged <;> omega))))
        | (
            first | refine pn_condD rfl (fun hc2 => ?_) (fun hc2 => ?_) | refine pn_condN rfl (fun hc2 => ?_) (fun hc2 => ?_) | refine pn_cond rfl (fun hc2 => ?_) (fun hc2 => ?_)
            · refine pn_seq ?_
              refine pn_plain [] rfl ?_
              refine TE_q rfl rfl (RD.assign rfl) rfl ?_
              refine TE_q rfl rfl (RD.assign rfl) rfl ?_
              refine TE_nil0 ?_
              refine pn_ret ?_
              exact pn_done (H1 := []) rfl rfl (.inr ⟨fun h => by obtain ⟨p1, p2, p3, p4⟩ := h.2 i x hx; first | exact absurd (show err (recOkB x) 120 = 0 by rw [p1]; rfl) (by assumption) | exact absurd (p2.trans hrz) (by assumption) | exact absurd (cmp05_m1.2 (p3 (i - 1) p (by omega) hp)) (by assumption) | (have h9 := p4 y (List.mem_of_getElem? hy); simp_all), rfl, rfl⟩) (List.nil_sublist _) (by simp)
            · refine pn_skip ?_
              refine pn_seq ?_
              refine pn_seq ?_
              refine pn_drawT [8, 13] [] [] [] HX rfl rfl (by kernel_rfl) (by kernel_rfl) rfl rfl ?_
              refine TE_q rfl rfl (RD.move rfl) rfl ?_
              refine TE_q rfl rfl (RD.gtr rfl rfl) rfl ?_
              refine TE_q rfl rfl (RD.move rfl) rfl ?_
              (first | refine TE_isT ?_ | refine TE_isF ?_ | refine TE_dec (fun h802 => ?_) (fun h802 => ?_) | refine TE_ndec (fun h802 => ?_) (fun h802 => ?_) | refine TE_bool (fun h802 => ?_) (fun h802 => ?_))
              all_goals (first | (refine TE_s rfl rfl rfl rfl rfl ?_) | (refine TE_gq rfl rfl rfl rfl (RD.move rfl) rfl ?_))
              all_goals (first | (refine TE_s rfl rfl rfl rfl rfl ?_) | (refine TE_gq rfl rfl rfl rfl (RD.move rfl) rfl ?_))
              all_goals (first | (refine TE_s rfl rfl rfl rfl rfl ?_) | (refine TE_gq rfl rfl rfl rfl (RD.subI rfl rfl (by omega) (by omega)) rfl ?_))
              all_goals (first | (refine TE_s rfl rfl rfl rfl rfl ?_) | (refine TE_gq rfl rfl rfl rfl (RD.indexX (i := i - 1) Tryz.runUnderlying22 Tryz.sizeOf40 (congrArg some hvp) rfl (by omega) (by omega)) rfl ?_))
              all_goals (first | (refine TE_s rfl rfl rfl rfl rfl ?_) | (refine TE_gq rfl rfl rfl rfl (RD.fieldAddr (o := offp + (i - 1) * 52) Tryz.runUnderlying40 rfl rfl Tryz.sizeOf33 rfl) rfl ?_))
              all_goals (first | (refine TE_s rfl rfl rfl rfl rfl ?_) | (refine TE_gq rfl rfl rfl rfl (RD.as (v := dotV p.s p.c) (RD.loadX (vs := dotC p) Tryz.isAgg33 Tryz.sizeOf33 rfl rfl (fun w hw j u hu => hcellp w (hw.sp (fun a => by simp -failIfUnchanged <;> omega)) j u (dotC_in hu))) (dotC_agg _)) rfl ?_))
              all_goals (first | (refine TE_s rfl rfl rfl rfl rfl ?_) | (refine TE_gq rfl rfl rfl rfl (RD.move rfl) rfl ?_))
              all_goals (first | (refine TE_s rfl rfl rfl rfl rfl ?_) | (refine TE_gq rfl rfl rfl rfl (RD.move rfl) rfl ?_))
              all_goals (first | (refine TE_s rfl rfl rfl rfl rfl ?_) | (refine TE_gq rfl rfl rfl rfl (RD.indexX (i := i) Tryz.runUnderlying22 Tryz.sizeOf40 (congrArg some hv) rfl rfl hlt) rfl ?_))
              all_goals (first | (refine TE_s rfl rfl rfl rfl rfl ?_) | (refine TE_gq rfl rfl rfl rfl (RD.fieldAddr (o := off + i * 52) Tryz.runUnderlying40 rfl rfl Tryz.sizeOf33 rfl) rfl ?_))
              all_goals (first | (refine TE_s rfl rfl rfl rfl rfl ?_) | (refine TE_gq rfl rfl rfl rfl (RD.as (v := dotV x.s x.c) (RD.loadX (vs := dotC x) Tryz.isAgg33 Tryz.sizeOf33 rfl rfl (fun w hw j u hu => hcell w (hw.sp (fun a => by simp -failIfUnchanged <;> omega)) j u (dotC_in hu))) (dotC_agg _)) rfl ?_))
              all_goals (first | (refine TE_s rfl rfl rfl rfl rfl ?_) | ((refine TE_call rfl rfl ⟨_, rfl, rfl⟩ Tryz.call44 rfl rfl rfl (fun w hs' => c_r5Cmp p.s p.c x.s x.c w) ?_; rintro v49 H14 ⟨rfl, rfl⟩ -)))
              all_goals (first | (refine TE_s rfl rfl rfl rfl rfl ?_) | (refine TE_gq rfl rfl rfl rfl (RD.neq rfl rfl) rfl ?_))
              all_goals (first | (refine TE_q rfl rfl (RD.pickT rfl rfl) rfl ?_) | (refine TE_q rfl rfl (RD.pickF rfl rfl) rfl ?_))
              all_goals refine TE_nil ?_
              all_goals first
                | (
                    refine pn_condT rfl ?_
                    refine pn_seq ?_
                    refine pn_plain [] rfl ?_
                    refine TE_q rfl rfl (RD.assign rfl) rfl ?_
                    refine TE_q rfl rfl (RD.assign rfl) rfl ?_
                    refine TE_nil0 ?_
                    refine pn_ret ?_
                    exact pn_done (H1 := []) rfl rfl (.inr ⟨fun h => by obtain ⟨p1, p2, p3, p4⟩ := h.2 i x hx; first | exact absurd (show err (recOkB x) 120 = 0 by rw [p1]; rfl) (by assumption) | exact absurd (p2.trans hrz) (by assumption) | exact absurd (cmp05_m1.2 (p3 (i - 1) p (by omega) hp)) (by assumption) | (have h9 := p4 y (List.mem_of_getElem? hy); simp_all), rfl, rfl⟩) (List.nil_sublist _) (by simp))
                | (
                    refine pn_condF rfl ?_
                    refine pn_skip ?_
                    refine pn_seq ?_
                    refine pn_plain [] rfl ?_
                    refine TE_q rfl rfl (RD.assign rfl) rfl ?_
                    refine TE_nil0 ?_
                    refine pn_block ?_
                    refine pn_loopS (σ := Nat) (fun k => [(5, .int .i64 (k : Int)), (4, .int .i64 (i : Int)), (0, v)]) (fun _ => HX) (fun k => k ≤ l.length ∧ ∀ (j : Nat) (y : Rec), j < k → l[j]? = some y → outdoesB x y = false) (fun k => l.length - k) 0 ⟨Nat.zero_le _, fun _ _ h => absurd h (by omega)⟩ ⟨rfl, rfl, rfl, trivial⟩ (fun a => by simp -failIfUnchanged <;> omega) ?_
                    rintro k ⟨hk, hout⟩
                    refine pn_seq ?_
                    refine pn_seq ?_
                    refine pn_plain [2] rfl ?_
                    refine TE_q rfl rfl (RD.move rfl) rfl ?_
                    refine TE_q rfl rfl (RD.move rfl) rfl ?_
                    refine TE_q rfl rfl (RD.lenX Tryz.runUnderlying22 rfl hb) rfl ?_
                    refine TE_q rfl rfl (RD.lss rfl rfl) rfl ?_
                    refine TE_nil0 ?_
                    first | refine pn_condD rfl (fun hc4 => ?_) (fun hc4 => ?_) | refine pn_condN rfl (fun hc4 => ?_) (fun hc4 => ?_) | refine pn_cond rfl (fun hc4 => ?_) (fun hc4 => ?_)
                    · refine pn_skip ?_
                      refine pn_seq ?_
                      refine pn_block ?_
                      refine pn_seq ?_
                      have hq9 : ∃ y, l[k]? = some y := ⟨_, List.getElem?_eq_getElem (by omega)⟩; obtain ⟨y, hy⟩ := hq9; have hq9 := hb.at hy; obtain ⟨by9, offy, capy, hvy, hcapy, hcelly⟩ := hq9
                      refine pn_drawT [3, 7] [] [] [] HX rfl rfl (by kernel_rfl) (by kernel_rfl) rfl rfl ?_
                      refine TE_q rfl rfl (RD.move rfl) rfl ?_
                      refine TE_q rfl rfl (RD.move rfl) rfl ?_
                      refine TE_q rfl rfl (RD.indexX (i := i) Tryz.runUnderlying22 Tryz.sizeOf40 (congrArg some hv) rfl rfl hlt) rfl ?_
                      refine TE_q rfl rfl (RD.as (v := recV x) (RD.loadX (vs := recC x) Tryz.isAgg40 Tryz.sizeOf40 rfl rfl (fun w hw j u hu => hcell w (hw.sp (fun a => by simp -failIfUnchanged <;> omega)) j u hu)) (recC_agg _)) rfl ?_
                      refine TE_q rfl rfl (RD.move rfl) rfl ?_
                      refine TE_q rfl rfl (RD.move rfl) rfl ?_
                      refine TE_q rfl rfl (RD.indexX (i := k) Tryz.runUnderlying22 Tryz.sizeOf40 (congrArg some hvy) rfl rfl (by omega)) rfl ?_
                      refine TE_q rfl rfl (RD.as (v := recV y) (RD.loadX (vs := recC y) Tryz.isAgg40 Tryz.sizeOf40 rfl rfl (fun w hw j u hu => hcelly w (hw.sp (fun a => by simp -failIfUnchanged <;> omega)) j u hu)) (recC_agg _)) rfl ?_
                      refine TE_call rfl rfl trivial Tryz.call45 rfl rfl rfl (fun w hs' => c_r12Outdoes x y w hxo) ?_
                      rintro v66 H8 ⟨rfl, rfl⟩ -
                      refine TE_q rfl rfl (RD.assign rfl) rfl ?_
                      refine TE_nil ?_
                      refine pn_seq ?_
                      refine pn_plain [] rfl ?_
                      refine TE_q rfl rfl (RD.move rfl) rfl ?_
                      refine TE_nil0 ?_
                      first | refine pn_condD rfl (fun hc5 => ?_) (fun hc5 => ?_) | refine pn_condN rfl (fun hc5 => ?_) (fun hc5 => ?_) | refine pn_cond rfl (fun hc5 => ?_) (fun hc5 => ?_)
                      · refine pn_seq ?_
                        refine pn_plain [] rfl ?_
                        refine TE_q rfl rfl (RD.assign rfl) rfl ?_
                        refine TE_q rfl rfl (RD.assign rfl) rfl ?_
                        refine TE_nil0 ?_
                        refine pn_ret ?_
                        exact pn_done (H1 := []) rfl rfl (.inr ⟨fun h => by obtain ⟨p1, p2, p3, p4⟩ := h.2 i x hx; first | exact absurd (show err (recOkB x) 120 = 0 by rw [p1]; rfl) (by assumption) | exact absurd (p2.trans hrz) (by assumption) | exact absurd (cmp05_m1.2 (p3 (i - 1) p (by omega) hp)) (by assumption) | (have h9 := p4 y (List.mem_of_getElem? hy); simp_all), rfl, rfl⟩) (List.nil_sublist _) (by simp)
                      · refine pn_skip ?_
                        refine pn_plain [] rfl ?_
                        refine TE_q rfl rfl (RD.move rfl) rfl ?_
                        refine TE_q rfl rfl (RD.addI rfl rfl (by omega) (by omega)) rfl ?_
                        refine TE_q rfl rfl (RD.assign rfl) rfl ?_
                        refine TE_nil0 ?_
                        (exact pn_againS (k + 1) ⟨by omega, fun j y' h hy' => by rcases Nat.lt_succ_iff_lt_or_eq.1 h with h | rfl; exact hout j y' h hy'; rw [hy] at hy'; cases hy'; simpa using hc5⟩ (by show l.length - (k + 1) < l.length - k; omega) ⟨rfl, rfl, rfl, trivial⟩ (fun a => by simp -failIfUnchanged <;> omega))
                    · refine pn_exit ?_
                      refine pn_plain [] rfl ?_
                      refine TE_q rfl rfl (RD.move rfl) rfl ?_
                      refine TE_q rfl rfl (RD.addI rfl rfl (by omega) (by omega)) rfl ?_
                      refine TE_q rfl rfl (RD.assign rfl) rfl ?_
                      refine TE_nil0 ?_
                      (exact pn_againS (i + 1) ⟨by omega, fun j y h hy => by rcases Nat.lt_succ_iff_lt_or_eq.1 h with h | rfl; exact hall j y h hy; rw [hx] at hy; cases hy; exact ⟨err0 (by assumption), by rw [hrz]; assumption, fun j y hj hy => by subst hj; rw [show j + 1 - 1 = j from by omega] at hp; rw [hy] at hp; cases hp; first | exact cmp05_m1.1 (by assumption) | (exfalso; omega), fun y hy => by obtain ⟨j, hj⟩ := List.mem_iff_getElem?.1 hy; exact hout j y (by have := (List.getElem?_eq_some_iff.1 hj).1; omega) hj⟩⟩ (by show l.length - (i + 1) < l.length - i; omega) ⟨rfl, rfl, trivial⟩ (fun a => by simp -failIfUnchanged <;> omega)))
                | (
                    first | refine pn_condD rfl (fun hc3 => ?_) (fun hc3 => ?_) | refine pn_condN rfl (fun hc3 => ?_) (fun hc3 => ?_) | refine pn_cond rfl (fun hc3 => ?_) (fun hc3 => ?_)
                    · refine pn_seq ?_
                      refine pn_plain [] rfl ?_
                      refine TE_q rfl rfl (RD.assign rfl) rfl ?_
                      refine TE_q rfl rfl (RD.assign rfl) rfl ?_
                      refine TE_nil0 ?_
                      refine pn_ret ?_
                      exact pn_done (H1 := []) rfl rfl (.inr ⟨fun h => by obtain ⟨p1, p2, p3, p4⟩ := h.2 i x hx; first | exact absurd (show err (recOkB x) 120 = 0 by rw [p1]; rfl) (by assumption) | exact absurd (p2.trans hrz) (by assumption) | exact absurd (cmp05_m1.2 (p3 (i - 1) p (by omega) hp)) (by assumption) | (have h9 := p4 y (List.mem_of_getElem? hy); simp_all), rfl, rfl⟩) (List.nil_sublist _) (by simp)
                    · refine pn_skip ?_
                      refine pn_seq ?_
                      refine pn_plain [] rfl ?_
                      refine TE_q rfl rfl (RD.assign rfl) rfl ?_
                      refine TE_nil0 ?_
                      refine pn_block ?_
                      refine pn_loopS (σ := Nat) (fun k => [(5, .int .i64 (k : Int)), (4, .int .i64 (i : Int)), (0, v)]) (fun _ => HX) (fun k => k ≤ l.length ∧ ∀ (j : Nat) (y : Rec), j < k → l[j]? = some y → outdoesB x y = false) (fun k => l.length - k) 0 ⟨Nat.zero_le _, fun _ _ h => absurd h (by omega)⟩ ⟨rfl, rfl, rfl, trivial⟩ (fun a => by simp -failIfUnchanged <;> omega) ?_
                      rintro k ⟨hk, hout⟩
                      refine pn_seq ?_
                      refine pn_seq ?_
                      refine pn_plain [2] rfl ?_
                      refine TE_q rfl rfl (RD.move rfl) rfl ?_
                      refine TE_q rfl rfl (RD.move rfl) rfl ?_
                      refine TE_q rfl rfl (RD.lenX Tryz.runUnderlying22 rfl hb) rfl ?_
                      refine TE_q rfl rfl (RD.lss rfl rfl) rfl ?_
                      refine TE_nil0 ?_
                      first | refine pn_condD rfl (fun hc4 => ?_) (fun hc4 => ?_) | refine pn_condN rfl (fun hc4 => ?_) (fun hc4 => ?_) | refine pn_cond rfl (fun hc4 => ?_) (fun hc4 => ?_)
                      · refine pn_skip ?_
                        refine pn_seq ?_
                        refine pn_block ?_
                        refine pn_seq ?_
                        have hq9 : ∃ y, l[k]? = some y := ⟨_, List.getElem?_eq_getElem (by omega)⟩; obtain ⟨y, hy⟩ := hq9; have hq9 := hb.at hy; obtain ⟨by9, offy, capy, hvy, hcapy, hcelly⟩ := hq9
                        refine pn_drawT [3, 7] [] [] [] HX rfl rfl (by kernel_rfl) (by kernel_rfl) rfl rfl ?_
                        refine TE_q rfl rfl (RD.move rfl) rfl ?_
                        refine TE_q rfl rfl (RD.move rfl) rfl ?_
                        refine TE_q rfl rfl (RD.indexX (i := i) Tryz.runUnderlying22 Tryz.sizeOf40 (congrArg some hv) rfl rfl hlt) rfl ?_
                        refine TE_q rfl rfl (RD.as (v := recV x) (RD.loadX (vs := recC x) Tryz.isAgg40 Tryz.sizeOf40 rfl rfl (fun w hw j u hu => hcell w (hw.sp (fun a => by simp -failIfUnchanged <;> omega)) j u hu)) (recC_agg _)) rfl ?_
                        refine TE_q rfl rfl (RD.move rfl) rfl ?_
                        refine TE_q rfl rfl (RD.move rfl) rfl ?_
                        refine TE_q rfl rfl (RD.indexX (i := k) Tryz.runUnderlying22 Tryz.sizeOf40 (congrArg some hvy) rfl rfl (by omega)) rfl ?_
                        refine TE_q rfl rfl (RD.as (v := recV y) (RD.loadX (vs := recC y) Tryz.isAgg40 Tryz.sizeOf40 rfl rfl (fun w hw j u hu => hcelly w (hw.sp (fun a => by simp -failIfUnchanged <;> omega)) j u hu)) (recC_agg _)) rfl ?_
                        refine TE_call rfl rfl trivial Tryz.call45 rfl rfl rfl (fun w hs' => c_r12Outdoes x y w hxo) ?_
                        rintro v66 H8 ⟨rfl, rfl⟩ -
                        refine TE_q rfl rfl (RD.assign rfl) rfl ?_
                        refine TE_nil ?_
                        refine pn_seq ?_
                        refine pn_plain [] rfl ?_
                        refine TE_q rfl rfl (RD.move rfl) rfl ?_
                        refine TE_nil0 ?_
                        first | refine pn_condD rfl (fun hc5 => ?_) (fun hc5 => ?_) | refine pn_condN rfl (fun hc5 => ?_) (fun hc5 => ?_) | refine pn_cond rfl (fun hc5 => ?_) (fun hc5 => ?_)
                        · refine pn_seq ?_
                          refine pn_plain [] rfl ?_
                          refine TE_q rfl rfl (RD.assign rfl) rfl ?_
                          refine TE_q rfl rfl (RD.assign rfl) rfl ?_
                          refine TE_nil0 ?_
                          refine pn_ret ?_
                          exact pn_done (H1 := []) rfl rfl (.inr ⟨fun h => by obtain ⟨p1, p2, p3, p4⟩ := h.2 i x hx; first | exact absurd (show err (recOkB x) 120 = 0 by rw [p1]; rfl) (by assumption) | exact absurd (p2.trans hrz) (by assumption) | exact absurd (cmp05_m1.2 (p3 (i - 1) p (by omega) hp)) (by assumption) | (have h9 := p4 y (List.mem_of_getElem? hy); simp_all), rfl, rfl⟩) (List.nil_sublist _) (by simp)
                        · refine pn_skip ?_
                          refine pn_plain [] rfl ?_
                          refine TE_q rfl rfl (RD.move rfl) rfl ?_
                          refine TE_q rfl rfl (RD.addI rfl rfl (by omega) (by omega)) rfl ?_
                          refine TE_q rfl rfl (RD.assign rfl) rfl ?_
                          refine TE_nil0 ?_
                          (exact pn_againS (k + 1) ⟨by omega, fun j y' h hy' => by rcases Nat.lt_succ_iff_lt_or_eq.1 h with h | rfl; exact hout j y' h hy'; rw [hy] at hy'; cases hy'; simpa using hc5⟩ (by show l.length - (k + 1) < l.length - k; omega) ⟨rfl, rfl, rfl, trivial⟩ (fun a => by simp -failIfUnchanged <;> omega))
                      · refine pn_exit ?_
                        refine pn_plain [] rfl ?_
                        refine TE_q rfl rfl (RD.move rfl) rfl ?_
                        refine TE_q rfl rfl (RD.addI rfl rfl (by omega) (by omega)) rfl ?_
                        refine TE_q rfl rfl (RD.assign rfl) rfl ?_
                        refine TE_nil0 ?_
                        (exact pn_againS (i + 1) ⟨by omega, fun j y h hy => by rcases Nat.lt_succ_iff_lt_or_eq.1 h with h | rfl; exact hall j y h hy; rw [hx] at hy; cases hy; exact ⟨err0 (by assumption), by rw [hrz]; assumption, fun j y hj hy => by subst hj; rw [show j + 1 - 1 = j from by omega] at hp; rw [hy] at hp; cases hp; first | exact cmp05_m1.1 (by assumption) | (exfalso; omega), fun y hy => by obtain ⟨j, hj⟩ := List.mem_iff_getElem?.1 hy; exact hout j y (by have := (List.getElem?_eq_some_iff.1 hj).1; omega) hj⟩⟩ (by show l.length - (i + 1) < l.length - i; omega) ⟨rfl, rfl, trivial⟩ (fun a => by simp -failIfUnchanged <;> omega))))
    · refine pn_exit ?_
      refine pn_seq ?_
      have hq9 : ∃ z, l[0]? = some z := ⟨_, List.getElem?_eq_getElem (by omega)⟩; obtain ⟨z, hz⟩ := hq9; have hq9 := hb.at hz; obtain ⟨bz, offz, capz, hvz, hcapz, hcellz⟩ := hq9; have hrz := refL_0 hz
      refine pn_plain [] rfl ?_
      refine TE_q rfl rfl (RD.move rfl) rfl ?_
      refine TE_q rfl rfl (RD.indexX (i := 0) Tryz.runUnderlying22 Tryz.sizeOf40 (congrArg some hvz) rfl rfl (by omega)) rfl ?_
      refine TE_q rfl rfl (RD.fieldAddr (o := offz + 0 * 52 + 18) Tryz.runUnderlying40 rfl rfl Tryz.sizeOf9 rfl) rfl ?_
      refine TE_l rfl rfl trivial rfl (RD.loadC Tryz.isAgg9 rfl (fun w hw => hcellz w (hw.sp (fun a => by simp -failIfUnchanged <;> omega)) 18 _ rfl)) rfl ?_
      refine TE_q rfl rfl (RD.build rfl (bd_rib z.ref)) rfl ?_
      refine TE_box rfl rfl trivial rfl fun b73 hb73 => ?_
      refine TE_q rfl rfl (RD.assign rfl) rfl ?_
      refine TE_nil0 ?_
      refine pn_seq ?_
      refine pn_plain [] rfl ?_
      refine TE_q rfl rfl (RD.move rfl) rfl ?_
      refine TE_q rfl rfl (RD.move rfl) rfl ?_
      refine TE_q rfl rfl (RD.nilCheckP rfl) rfl ?_
      refine TE_q rfl rfl (RD.fieldAddr (o := 1) Tryz.runUnderlying89 rfl rfl Tryz.sizeOf22 rfl) rfl ?_
      refine TE_l rfl rfl trivial rfl (RD.load (i := 0) Tryz.isAgg22 rfl rfl rfl) rfl ?_
      refine TE_q rfl rfl (RD.move rfl) rfl ?_
      refine TE_appendX (st := none) (l := []) (ys := l) ((b73, .cells (Value.agg #[.string z.ref, .slice none 0 0]).cells 89 (0, 0)) :: HX) recC_len recC_one rfl rfl rfl rfl trivial rfl Tryz.underlying22 elRec rfl rfl rfl BldOk.nil hb (fun _ hw => hw.sp (fun a => by simp -failIfUnchanged <;> omega)) (by simp; omega) rfl (bldx_all (fun k => w.heap.size ≤ k ∨ k ∈ ([] : List Nat)) (by rintro b cap tl ⟨⟩)) ?_
      intro st hbo hXs _; refine TE_sp ((b73, .cells (Value.agg #[.string z.ref, .slice none 0 0]).cells 89 (0, 0)) :: (bldMx 40 recC ([] ++ l) st ++ HX)) (fun a => by simp -failIfUnchanged <;> omega) ?_
      refine TE_q rfl rfl (RD.nilCheckP rfl) rfl ?_
      refine TE_q rfl rfl (RD.fieldAddr (o := 1) Tryz.runUnderlying89 rfl rfl Tryz.sizeOf22 rfl) rfl ?_
      refine TE_store (i := 0) rfl Tryz.sizeOf22 trivial rfl rfl (bldVx_cells l st) (bldVx_one l st) rfl rfl (.inl hb73) ?_
      refine TE_nil0 ?_
      refine pn_seq ?_
      refine pn_plain [] rfl ?_
      refine TE_q rfl rfl (RD.move rfl) rfl ?_
      refine TE_q rfl rfl (RD.assign rfl) rfl ?_
      refine TE_q rfl rfl (RD.assign rfl) rfl ?_
      refine TE_nil0 ?_
      refine pn_ret ?_
      rw [← hrz]; exact pn_doneS ((b73, .cells ((Value.agg #[.string (refL l), .slice none 0 0]).cells.setIfInBounds 1 (bldVx l st)) 89 (0, 0)) :: bldMx 40 recC l st) rfl rfl (.inl ⟨b73, st, hbo, ⟨fun h => by rw [h] at hz; simp at hz, fun i x hx => hall i x (by have := (List.getElem?_eq_some_iff.1 hx).1; omega) hx⟩, rfl, rfl⟩) (fun a => by simp -failIfUnchanged <;> omega) (by intro e he; rcases List.mem_cons.1 he with rfl | he; exact .inl hb73; exact hXs e he)

end Go.Proofs.YtiefjfcfijcgmaaGreatDoor
