import Derived.Test.YtiefjfcfijcgmaaGreatDoorIds
import Derived.Test.YtiefjfcfijcgmaaGreatDoorSrt
namespace Go.Proofs.YtiefjfcfijcgmaaGreatDoor
open Go Go.Mv
set_option maxRecDepth 8000
theorem c_cloneI (H : Mem) (xv : Value) (ys : List (Nat → Int)) (w : World) (hH : Hp H w) (hb : Rdx 32 idC H xv ys) (hlen : ys.length ≤ 1000000) : Calls Tryz.prog 88 #[xv] w (Ret w [] fun v H1 => ∃ st, BldOk 32 idC ys st ∧ v = bldVx ys st ∧ H1 = bldMx 38 idC ys st) := by
  rcases hb with ⟨rfl, rfl⟩ | ⟨b, off, cap, rfl, hcap, hcell⟩
  · refine fn_enter (args := [_]) Tryz.func88 rfl Tryz.ntmps88 rfl hH ?_
    refine pn_seq ?_
    refine pn_plain [] rfl ?_
    refine TE_q rfl rfl (RD.assign rfl) rfl ?_
    refine TE_nil0 ?_
    refine pn_seq ?_
    refine pn_seq ?_
    refine pn_plain [] rfl ?_
    refine TE_q rfl rfl (RD.move rfl) rfl ?_
    refine TE_q rfl rfl (RD.sl_eql_nil Tryz.runUnderlying48 rfl rfl) rfl ?_
    refine TE_nil0 ?_
    refine pn_condT rfl ?_
    refine pn_seq ?_
    refine pn_plain [] rfl ?_
    refine TE_q rfl rfl (RD.assign rfl) rfl ?_
    refine TE_nil0 ?_
    refine pn_ret ?_
    exact pn_done (H1 := []) rfl rfl ⟨none, rfl, rfl, rfl⟩ (List.nil_sublist _) (by simp)
  · have hb : Rdx 32 idC H (.slice (some ⟨b, off, none⟩) ys.length cap) ys := .inr ⟨b, off, cap, rfl, hcap, hcell⟩
    refine fn_enter (args := [_]) Tryz.func88 rfl Tryz.ntmps88 rfl hH ?_
    refine pn_seq ?_
    refine pn_plain [] rfl ?_
    refine TE_q rfl rfl (RD.assign rfl) rfl ?_
    refine TE_nil0 ?_
    refine pn_seq ?_
    refine pn_seq ?_
    refine pn_plain [] rfl ?_
    refine TE_q rfl rfl (RD.move rfl) rfl ?_
    refine TE_q rfl rfl (RD.sl_eql_nil Tryz.runUnderlying48 rfl rfl) rfl ?_
    refine TE_nil0 ?_
    refine pn_condF rfl ?_
    refine pn_skip ?_
    refine pn_seq ?_
    refine pn_plain [] rfl ?_
    refine TE_buildSlice0 rfl Tryz.runUnderlying48 Tryz.sizeOf38 trivial rfl fun b5 hb5 => ?_
    refine TE_q rfl rfl (RD.move rfl) rfl ?_
    refine TE_appendX (st := some (b5, 0, [])) (l := []) H idC_len idC_one rfl rfl rfl rfl trivial rfl Tryz.underlying48 elId rfl rfl rfl ⟨Nat.le_refl _, by decide, rfl⟩ hb (fun _ hw => hw.sp (fun a => by simp -failIfUnchanged <;> omega)) (by simp; omega) rfl (bldx_all (fun k => w.heap.size ≤ k ∨ k ∈ []) (by rintro b cap tl ⟨⟩; exact .inl hb5)) ?_
    intro st hok hX _
    refine TE_q rfl rfl (RD.assign rfl) rfl ?_
    refine TE_nil0 ?_
    refine pn_ret ?_
    exact pn_done rfl rfl ⟨st, hok, rfl, rfl⟩ (List.sublist_append_left _ _) (fun e he => (hX e he).symm)

theorem zeroI_one : ∀ v ∈ ((idV fun _ => 0).cells).toList, v.oneCell' = true := List.all_eq_true.1 rfl
theorem zeroI_ok : IdOk fun _ => 0 := fun _ => by show (0 : Int) ≤ 0 ∧ (0 : Int) ≤ 255; omega
theorem setOf_self {l : List (Nat → Int)} (h : l.length < 2) : SetOf l l := by
  match l, h with
  | [], _ => exact SetOf.nil
  | [x], _ => exact ⟨by simp, fun _ => Iff.rfl⟩
theorem setOf_take {l : List (Nat → Int)} {k : Nat} (h : SetOf (l.take k) (l.take k)) (hk : l.length ≤ k) : SetOf l l := by rwa [List.take_of_length_le hk] at h

set_option maxHeartbeats 1000000 in
theorem c_compact (HC : Mem) (l : List (Nat → Int)) (st : SnkS) (w : World) (hbo : BldOk 32 idC l st) (hcan : ∀ x ∈ l, IdCan x) (hsort : l.Pairwise fun x y => ¬ idCmp y x < 0) (hlen : l.length ≤ 1000000) (hH : Hp (bldMx 38 idC l st ++ HC) w) : Calls Tryz.prog 91 #[bldVx l st] w (Ret w (keys (bldMx 38 idC l st)) fun r H1 => ∃ xs st', SetOf l xs ∧ BldOk 32 idC xs st' ∧ r = bldVx xs st' ∧ H1 = bldMx 38 idC xs st') := by
  have hRl : Rdx 32 idC (bldMx 38 idC l st) (bldVx l st) l := hbo.rdx idC_len
  refine fn_enter (args := [_]) Tryz.func91 rfl Tryz.ntmps91 rfl hH ?_
  refine pn_seq ?_
  refine pn_plain [] rfl ?_
  refine TE_q rfl rfl (RD.assign rfl) rfl ?_
  refine TE_nil0 ?_
  refine pn_seq ?_
  refine pn_seq ?_
  refine pn_plain [1] rfl ?_
  refine TE_q rfl rfl (RD.move rfl) rfl ?_
  refine TE_q rfl rfl (RD.lenX Tryz.runUnderlying48 rfl hRl) rfl ?_
  refine TE_q rfl rfl (RD.lss rfl rfl) rfl ?_
  refine TE_nil0 ?_
  first | refine pn_condD rfl (fun hc0 => ?_) (fun hc0 => ?_) | refine pn_condN rfl (fun hc0 => ?_) (fun hc0 => ?_) | refine pn_cond rfl (fun hc0 => ?_) (fun hc0 => ?_)
  · refine pn_seq ?_
    refine pn_plain [] rfl ?_
    refine TE_q rfl rfl (RD.move rfl) rfl ?_
    refine TE_q rfl rfl (RD.assign rfl) rfl ?_
    refine TE_nil0 ?_
    refine pn_ret ?_
    exact pn_done rfl rfl ⟨l, st, setOf_self (by omega), hbo, rfl, rfl⟩ (List.sublist_append_left _ _) (fun e he => .inl (List.mem_map_of_mem he))
  · refine pn_skip ?_
    refine pn_seq ?_
    refine pn_seq ?_
    have hq9 := hbo.some_of (fun h => hc0 (by rw [h]; decide)); obtain ⟨b0, cap0, tl0, rfl⟩ := hq9
    refine pn_plain [] rfl ?_
    refine TE_q rfl rfl (RD.assign rfl) rfl ?_
    refine TE_nil0 ?_
    refine pn_block ?_
    refine pn_loop (σ := Nat) (fun k => [(3, .int .i64 (k : Int)), (0, .slice (some ⟨b0, 0, none⟩) l.length cap0)]) (fun _ => bldMx 38 idC l (some (b0, cap0, tl0)) ++ HC) (fun k => 1 ≤ k ∧ k ≤ l.length ∧ SetOf (l.take k) (l.take k)) (fun k => l.length - k) 1 ⟨Nat.le_refl _, by omega, setOf_self (by rw [List.length_take]; omega)⟩ ⟨rfl, rfl, trivial⟩ (List.Sublist.refl _) ?_
    rintro k ⟨hk1, hk2, hset⟩
    refine pn_seq ?_
    refine pn_seq ?_
    refine pn_plain [2] rfl ?_
    refine TE_q rfl rfl (RD.move rfl) rfl ?_
    refine TE_q rfl rfl (RD.move rfl) rfl ?_
    refine TE_q rfl rfl (RD.lenX Tryz.runUnderlying48 rfl hRl) rfl ?_
    refine TE_q rfl rfl (RD.lss rfl rfl) rfl ?_
    refine TE_nil0 ?_
    first | refine pn_condD rfl (fun hc1 => ?_) (fun hc1 => ?_) | refine pn_condN rfl (fun hc1 => ?_) (fun hc1 => ?_) | refine pn_cond rfl (fun hc1 => ?_) (fun hc1 => ?_)
    · refine pn_skip ?_
      refine pn_seq ?_
      refine pn_block ?_
      refine pn_seq ?_
      have hkl : k < l.length := (by omega); have hq9 : ∃ x, l[k]? = some x := ⟨_, List.getElem?_eq_getElem hkl⟩; obtain ⟨x, hx⟩ := hq9; have hq9 : ∃ p, l[k - 1]? = some p := ⟨_, List.getElem?_eq_getElem (by omega)⟩; obtain ⟨p, hp⟩ := hq9; have hcx := hbo.cell (u := 38) idC_len hx; have hcp := hbo.cell (u := 38) idC_len hp; have hnx := srt_next (m := k - 1) hsort hcan (by rw [show k - 1 + 1 = k from by omega]; exact hset) hp (by rw [show k - 1 + 1 = k from by omega]; exact hx); rw [show k - 1 + 1 = k from by omega] at hnx
      refine pn_drawT [3, 8] [] [] [] (bldMx 38 idC l (some (b0, cap0, tl0)) ++ HC) rfl rfl (by kernel_rfl) (by kernel_rfl) rfl rfl ?_
      refine TE_q rfl rfl (RD.move rfl) rfl ?_
      refine TE_q rfl rfl (RD.move rfl) rfl ?_
      refine TE_q rfl rfl (RD.indexX (i := k) (len := l.length) (cap := cap0) (b := b0) (off := 0) Tryz.runUnderlying48 Tryz.sizeOf38 rfl rfl rfl hkl) rfl ?_
      refine TE_q rfl rfl (RD.as (v := idV x) (RD.loadX (vs := idC x) Tryz.isAgg38 Tryz.sizeOf38 rfl rfl (fun w hw j u hu => hcx w (hw.sp (fun a => by simp -failIfUnchanged <;> omega)) j u hu)) (idC_agg _)) rfl ?_
      refine TE_q rfl rfl (RD.move rfl) rfl ?_
      refine TE_q rfl rfl (RD.move rfl) rfl ?_
      refine TE_q rfl rfl (RD.subI rfl rfl (by omega) (by omega)) rfl ?_
      refine TE_q rfl rfl (RD.indexX (i := k - 1) (len := l.length) (cap := cap0) (b := b0) (off := 0) Tryz.runUnderlying48 Tryz.sizeOf38 rfl rfl (by omega) (by omega)) rfl ?_
      refine TE_q rfl rfl (RD.as (v := idV p) (RD.loadX (vs := idC p) Tryz.isAgg38 Tryz.sizeOf38 rfl rfl (fun w hw j u hu => hcp w (hw.sp (fun a => by simp -failIfUnchanged <;> omega)) j u hu)) (idC_agg _)) rfl ?_
      refine TE_q rfl rfl (RD.eql_agg Tryz.eqGuardType38 (eq_id x p) rfl rfl) rfl ?_
      refine TE_nil ?_
      first | refine pn_condD rfl (fun hc2 => ?_) (fun hc2 => ?_) | refine pn_condN rfl (fun hc2 => ?_) (fun hc2 => ?_) | refine pn_cond rfl (fun hc2 => ?_) (fun hc2 => ?_)
      · refine pn_seq ?_
        refine pn_plain [] rfl ?_
        refine TE_q rfl rfl (RD.move rfl) rfl ?_
        refine TE_q rfl rfl (RD.move rfl) rfl ?_
        refine TE_q rfl rfl (RD.as (v := .slice (some ⟨b0, 0 + k * 32, none⟩) (l.length - k) (cap0 - k)) (RD.sliceX (l := k) (h := l.length) Tryz.runUnderlying48 Tryz.sizeOf38 rfl hRl ⟨_, rfl⟩ rfl (by omega) (Nat.le_refl _)) (by have hcl : l.length ≤ cap0 := hbo.1; show subVx 32 k l.length (.slice (some ⟨b0, 0, none⟩) l.length cap0) = _; simp only [subVx]; rw [if_neg (by omega)])) rfl ?_
        refine TE_q rfl rfl (RD.assign rfl) rfl ?_
        refine TE_nil0 ?_
        refine pn_seq ?_
        refine pn_seq ?_
        refine pn_plain [] rfl ?_
        refine TE_q rfl rfl (RD.assign rfl) rfl ?_
        refine TE_nil0 ?_
        refine pn_block ?_
        obtain ⟨k0, rfl⟩ : ∃ k0, k0 = k := ⟨k, rfl⟩; refine pn_loop (σ := Nat × Nat × List (Nat → Int)) (fun q => [(5, .int .i64 (q.2.1 : Int)), (3, .int .i64 (q.1 : Int)), (4, .slice (some ⟨b0, 0 + k0 * 32, none⟩) (l.length - k0) (cap0 - k0)), (0, .slice (some ⟨b0, 0, none⟩) l.length cap0)]) (fun q => bldMx 38 idC q.2.2 (some (b0, cap0, tl0)) ++ HC) (fun q => k0 ≤ q.1 ∧ q.1 < k0 + q.2.1 ∧ 1 ≤ q.2.1 ∧ k0 + q.2.1 ≤ l.length ∧ q.2.2.length = l.length ∧ BldOk 32 idC q.2.2 (some (b0, cap0, tl0)) ∧ SetOf (l.take (k0 + q.2.1)) (q.2.2.take q.1) ∧ ∀ j, k0 + q.2.1 - 1 ≤ j → q.2.2[j]? = l[j]?) (fun q => l.length - q.2.1) (k0, 1, l) ⟨Nat.le_refl _, Nat.lt_succ_self _, Nat.le_refl _, by show k0 + 1 ≤ l.length; omega, rfl, hbo, hnx.1 (by simpa using hc2), fun _ _ => rfl⟩ ⟨rfl, rfl, rfl, rfl, trivial⟩ (List.Sublist.refl _) ?_
        rintro ⟨k, k2, zs⟩ ⟨hk3, hk4, hk5, hk6, hzl, hbz, hset2, hdr⟩; dsimp only at hk3 hk4 hk5 hk6 hzl hset2 hdr ⊢; have hbz : BldOk 32 idC zs (some (b0, cap0, tl0)) := hbz
        refine pn_seq ?_
        refine pn_seq ?_
        refine pn_plain [2] rfl ?_
        refine TE_q rfl rfl (RD.move rfl) rfl ?_
        refine TE_q rfl rfl (RD.move rfl) rfl ?_
        refine TE_q rfl rfl (RD.len_slice Tryz.runUnderlying48 rfl) rfl ?_
        refine TE_q rfl rfl (RD.lss rfl rfl) rfl ?_
        refine TE_nil0 ?_
        first | refine pn_condD rfl (fun hc3 => ?_) (fun hc3 => ?_) | refine pn_condN rfl (fun hc3 => ?_) (fun hc3 => ?_) | refine pn_cond rfl (fun hc3 => ?_) (fun hc3 => ?_)
        · refine pn_skip ?_
          refine pn_seq ?_
          refine pn_block ?_
          refine pn_seq ?_
          have hjl : k0 + k2 < l.length := (by omega); have hq9 : ∃ x, l[k0 + k2]? = some x := ⟨_, List.getElem?_eq_getElem hjl⟩; obtain ⟨y, hy⟩ := hq9; have hq9 : ∃ q, l[k0 + k2 - 1]? = some q := ⟨_, List.getElem?_eq_getElem (by omega)⟩; obtain ⟨q, hq⟩ := hq9; have hyz := hdr (k0 + k2) (by omega); have hqz := hdr (k0 + k2 - 1) (by omega); rw [hy] at hyz; rw [hq] at hqz; have hcy := hbz.cell (u := 38) idC_len hyz; have hcq := hbz.cell (u := 38) idC_len hqz; rw [show 0 + (k0 + k2) * 32 = 0 + k0 * 32 + k2 * 32 from by omega] at hcy; rw [show 0 + (k0 + k2 - 1) * 32 = 0 + k0 * 32 + (k2 - 1) * 32 from by omega] at hcq; have hnx := srt_next (m := k0 + k2 - 1) hsort hcan (by rw [show k0 + k2 - 1 + 1 = k0 + k2 from by omega]; exact hset2) hq (by rw [show k0 + k2 - 1 + 1 = k0 + k2 from by omega]; exact hy); rw [show k0 + k2 - 1 + 1 = k0 + k2 from by omega] at hnx
          refine pn_drawT [3, 8] [] [] [] (bldMx 38 idC zs (some (b0, cap0, tl0)) ++ HC) rfl rfl (by kernel_rfl) (by kernel_rfl) rfl rfl ?_
          refine TE_q rfl rfl (RD.move rfl) rfl ?_
          refine TE_q rfl rfl (RD.move rfl) rfl ?_
          refine TE_q rfl rfl (RD.indexX (i := k2) (len := l.length - k0) (cap := cap0 - k0) (b := b0) (off := 0 + k0 * 32) Tryz.runUnderlying48 Tryz.sizeOf38 rfl rfl rfl (by omega)) rfl ?_
          refine TE_q rfl rfl (RD.as (v := idV y) (RD.loadX (vs := idC y) Tryz.isAgg38 Tryz.sizeOf38 rfl rfl (fun w hw j u hu => hcy w (hw.sp (fun a => by simp -failIfUnchanged <;> omega)) j u hu)) (idC_agg _)) rfl ?_
          refine TE_q rfl rfl (RD.move rfl) rfl ?_
          refine TE_q rfl rfl (RD.move rfl) rfl ?_
          refine TE_q rfl rfl (RD.subI rfl rfl (by omega) (by omega)) rfl ?_
          refine TE_q rfl rfl (RD.indexX (i := k2 - 1) (len := l.length - k0) (cap := cap0 - k0) (b := b0) (off := 0 + k0 * 32) Tryz.runUnderlying48 Tryz.sizeOf38 rfl rfl (by omega) (by omega)) rfl ?_
          refine TE_q rfl rfl (RD.as (v := idV q) (RD.loadX (vs := idC q) Tryz.isAgg38 Tryz.sizeOf38 rfl rfl (fun w hw j u hu => hcq w (hw.sp (fun a => by simp -failIfUnchanged <;> omega)) j u hu)) (idC_agg _)) rfl ?_
          refine TE_q rfl rfl (RD.neq_agg Tryz.eqGuardType38 (eq_id y q) rfl rfl) rfl ?_
          refine TE_nil ?_
          first | refine pn_condD rfl (fun hc4 => ?_) (fun hc4 => ?_) | refine pn_condN rfl (fun hc4 => ?_) (fun hc4 => ?_) | refine pn_cond rfl (fun hc4 => ?_) (fun hc4 => ?_)
          · refine pn_seq ?_
            refine pn_sp (bldMx 38 idC zs (some (b0, cap0, tl0)) ++ HC) (fun a => by simp -failIfUnchanged <;> omega) ?_
            refine pn_plain [] rfl ?_
            refine TE_q rfl rfl (RD.move rfl) rfl ?_
            refine TE_q rfl rfl (RD.move rfl) rfl ?_
            refine TE_q rfl rfl (RD.move rfl) rfl ?_
            refine TE_q rfl rfl (RD.move rfl) rfl ?_
            refine TE_q rfl rfl (RD.indexX (i := k2) (len := l.length - k0) (cap := cap0 - k0) (b := b0) (off := 0 + k0 * 32) Tryz.runUnderlying48 Tryz.sizeOf38 rfl rfl rfl (by omega)) rfl ?_
            refine TE_l rfl rfl trivial rfl (RD.as (v := idV y) (RD.loadX (vs := idC y) Tryz.isAgg38 Tryz.sizeOf38 rfl rfl (fun w hw j u hu => hcy w (hw.sp (fun a => by simp -failIfUnchanged <;> omega)) j u hu)) (idC_agg _)) rfl ?_
            refine TE_q rfl rfl (RD.indexX (i := k) (len := l.length) (cap := cap0) (b := b0) (off := 0) Tryz.runUnderlying48 Tryz.sizeOf38 rfl rfl rfl (by omega)) rfl ?_
            refine TE_setE (i := k) (z := y) HC idC_len idC_one rfl rfl Tryz.sizeOf38 trivial rfl rfl rfl (by omega) (by omega) (.inr (by simp [keys, bldMx])) ?_
            refine TE_nil0 ?_
            refine pn_plain [] rfl ?_
            refine TE_q rfl rfl (RD.move rfl) rfl ?_
            refine TE_q rfl rfl (RD.addI rfl rfl (by omega) (by omega)) rfl ?_
            refine TE_q rfl rfl (RD.assign rfl) rfl ?_
            refine TE_nil0 ?_
            refine pn_plain [] rfl ?_
            refine TE_q rfl rfl (RD.move rfl) rfl ?_
            refine TE_q rfl rfl (RD.addI rfl rfl (by omega) (by omega)) rfl ?_
            refine TE_q rfl rfl (RD.assign rfl) rfl ?_
            refine TE_nil0 ?_
            (first | exact pn_again (k + 1, k2 + 1, zs.set k y) ⟨by show k0 ≤ k + 1; omega, by show k + 1 < k0 + (k2 + 1); omega, by show 1 ≤ k2 + 1; omega, by show k0 + (k2 + 1) ≤ _; omega, by show (zs.set k y).length = _; rw [List.length_set]; exact hzl, hbz.set idC_len k y, by show SetOf (l.take (k0 + k2 + 1)) ((zs.set k y).take (k + 1)); rw [set_take y (by omega)]; exact hnx.2 (by simpa using hc4), fun j hj => by show (zs.set k y)[j]? = _; have hj' : k0 + (k2 + 1) - 1 ≤ j := hj; rw [List.getElem?_set_ne (by omega)]; exact hdr j (by omega)⟩ (by show l.length - (k2 + 1) < l.length - k2; omega) ⟨rfl, rfl, rfl, rfl, trivial⟩ (List.Sublist.refl _) | exact pn_again (k, k2 + 1, zs) ⟨hk3, by show k < k0 + (k2 + 1); omega, by show 1 ≤ k2 + 1; omega, by show k0 + (k2 + 1) ≤ _; omega, hzl, hbz, hnx.1 (by simpa using hc4), fun j hj => hdr j (by have hj' : k0 + (k2 + 1) - 1 ≤ j := hj; omega)⟩ (by show l.length - (k2 + 1) < l.length - k2; omega) ⟨rfl, rfl, rfl, rfl, trivial⟩ (List.Sublist.refl _))
          · refine pn_skip ?_
            refine pn_plain [] rfl ?_
            refine TE_q rfl rfl (RD.move rfl) rfl ?_
            refine TE_q rfl rfl (RD.addI rfl rfl (by omega) (by omega)) rfl ?_
            refine TE_q rfl rfl (RD.assign rfl) rfl ?_
            refine TE_nil0 ?_
            (first | exact pn_again (k + 1, k2 + 1, zs.set k y) ⟨by show k0 ≤ k + 1; omega, by show k + 1 < k0 + (k2 + 1); omega, by show 1 ≤ k2 + 1; omega, by show k0 + (k2 + 1) ≤ _; omega, by show (zs.set k y).length = _; rw [List.length_set]; exact hzl, hbz.set idC_len k y, by show SetOf (l.take (k0 + k2 + 1)) ((zs.set k y).take (k + 1)); rw [set_take y (by omega)]; exact hnx.2 (by simpa using hc4), fun j hj => by show (zs.set k y)[j]? = _; have hj' : k0 + (k2 + 1) - 1 ≤ j := hj; rw [List.getElem?_set_ne (by omega)]; exact hdr j (by omega)⟩ (by show l.length - (k2 + 1) < l.length - k2; omega) ⟨rfl, rfl, rfl, rfl, trivial⟩ (List.Sublist.refl _) | exact pn_again (k, k2 + 1, zs) ⟨hk3, by show k < k0 + (k2 + 1); omega, by show 1 ≤ k2 + 1; omega, by show k0 + (k2 + 1) ≤ _; omega, hzl, hbz, hnx.1 (by simpa using hc4), fun j hj => hdr j (by have hj' : k0 + (k2 + 1) - 1 ≤ j := hj; omega)⟩ (by show l.length - (k2 + 1) < l.length - k2; omega) ⟨rfl, rfl, rfl, rfl, trivial⟩ (List.Sublist.refl _))
        · refine pn_exit ?_
          refine pn_seq ?_
          refine pn_sp (bldMx 38 idC zs (some (b0, cap0, tl0)) ++ HC) (fun a => by simp -failIfUnchanged <;> omega) ?_
          refine pn_plain [] rfl ?_
          refine TE_q rfl rfl (RD.move rfl) rfl ?_
          refine TE_q rfl rfl (RD.move rfl) rfl ?_
          refine TE_q rfl rfl (RD.sliceX (l := k) (h := l.length) Tryz.runUnderlying48 Tryz.sizeOf38 rfl hRl ⟨_, rfl⟩ rfl (by omega) (Nat.le_refl _)) rfl ?_
          refine TE_clearX (n := k) (l := zs) HC idC_len rfl rfl rfl trivial Tryz.underlying48 Tryz.zeroValue38 rfl zeroI_one (by show some (subVx 32 k l.length (.slice (some ⟨b0, 0, none⟩) l.length cap0)) = _; rw [← hzl]; rfl) (by omega) hbz (.inr (by simp [keys, bldMx])) ?_
          intro tl' hbt
          refine TE_nil0 ?_
          refine pn_seq ?_
          refine pn_plain [] rfl ?_
          refine TE_q rfl rfl (RD.move rfl) rfl ?_
          refine TE_q rfl rfl (RD.move rfl) rfl ?_
          refine TE_q rfl rfl (RD.sliceX (l := 0) (h := k) Tryz.runUnderlying48 Tryz.sizeOf38 rfl hRl rfl ⟨_, rfl⟩ (Nat.zero_le _) (by omega)) rfl ?_
          refine TE_q rfl rfl (RD.assign rfl) rfl ?_
          refine TE_nil0 ?_
          refine pn_ret ?_
          exact pn_done rfl rfl ⟨zs.take k, some (b0, cap0, tl'), by rwa [List.take_of_length_le (by omega)] at hset2, hbt, subVx_pre (n := l.length) (by rw [List.length_take]; omega), rfl⟩ (List.sublist_append_left _ _) (fun e he => .inl (by simp only [bldMx, List.mem_cons, List.not_mem_nil, or_false] at he; subst he; simp [keys, bldMx]))
      · refine pn_skip ?_
        refine pn_plain [] rfl ?_
        refine TE_q rfl rfl (RD.move rfl) rfl ?_
        refine TE_q rfl rfl (RD.addI rfl rfl (by omega) (by omega)) rfl ?_
        refine TE_q rfl rfl (RD.assign rfl) rfl ?_
        refine TE_nil0 ?_
        (exact pn_again (k + 1) ⟨by omega, by omega, by have h9 := hnx.2 (by simpa using hc2); rwa [← take_succ_of hx] at h9⟩ (by show l.length - (k + 1) < l.length - k; omega) ⟨rfl, rfl, trivial⟩ (List.Sublist.refl _))
    · refine pn_exit ?_
      refine pn_seq ?_
      refine pn_plain [] rfl ?_
      refine TE_q rfl rfl (RD.move rfl) rfl ?_
      refine TE_q rfl rfl (RD.assign rfl) rfl ?_
      refine TE_nil0 ?_
      refine pn_ret ?_
      exact pn_done rfl rfl ⟨l, some (b0, cap0, tl0), setOf_take hset (by omega), hbo, rfl, rfl⟩ (List.sublist_append_left _ _) (fun e he => .inl (List.mem_map_of_mem he))

theorem c_hashSet (HX : Mem) (v : Value) (l : List (Nat → Int)) (w : World) (hb : Rdx 32 idC HX v l) (hcan : ∀ x ∈ l, IdCan x) (hok : ∀ x ∈ l, IdOk x) (hlen : l.length ≤ 1000000) (hH : Hp HX w) : Calls Tryz.prog 57 #[v] w (Ret w [] fun r H1 => ∃ xs st, SetOf l xs ∧ BldOk 32 idC xs st ∧ r = bldVx xs st ∧ H1 = bldMx 38 idC xs st) := by
  refine fn_enter (args := [_]) Tryz.func57 rfl Tryz.ntmps57 rfl hH ?_
  refine pn_seq ?_
  refine pn_plain [] rfl ?_
  refine TE_q rfl rfl (RD.assign rfl) rfl ?_
  refine TE_nil0 ?_
  refine pn_seq ?_
  refine pn_plain [] rfl ?_
  refine TE_q rfl rfl (RD.move rfl) rfl ?_
  refine TE_call rfl rfl trivial Tryz.call88 rfl rfl rfl (fun w hs' => c_cloneI HX _ l w (hs'.hp.sp (fun a => by simp -failIfUnchanged <;> omega)) hb hlen) ?_
  rintro v5 H1 ⟨st, hbo, rfl, rfl⟩ hX1
  refine TE_q rfl rfl (RD.assign rfl) rfl ?_
  refine TE_nil0 ?_
  refine pn_seq ?_
  refine pn_plain [] rfl ?_
  refine TE_q rfl rfl (RD.move rfl) rfl ?_
  refine TE_callR HX (bldMx 38 idC l st) (fun a => by simp -failIfUnchanged <;> omega) rfl rfl trivial Tryz.call89 rfl rfl rfl (fun e he => .inl (hX1 e he)) (fun w hs' => c_sortB IdOk _ zeroI_ok Tryz.sort89 Tryz.isAgg38 Tryz.sizeOf38 idC_len idC_one idCmp idCmp_irr idCmp_tr idCmp_nt 90 #[] Tryz.call90 [] (fun x y W hx hy hW => (c_hashCmp x y W hx hy).mono (by rintro e w' ⟨v, H1, rfl, ⟨rfl, rfl⟩, h1, h2, h3⟩; exact ⟨_, [], rfl, rfl, h1, h2, h3⟩)) _ l st hbo hok w (hs'.hp.sp (fun a => by simp -failIfUnchanged <;> omega)) (by omega)) ?_
  rintro v7 H1 ⟨rfl, xs, hperm, hsort, rfl, hveq, hbo'⟩ hX2
  refine TE_nil0 ?_
  refine pn_seq ?_
  refine pn_plain [] rfl ?_
  refine TE_q rfl rfl (RD.move rfl) rfl ?_
  refine TE_callR HX (bldMx 38 idC xs st) (fun a => by simp -failIfUnchanged <;> omega) rfl rfl trivial Tryz.call91 rfl rfl rfl hX2 (fun w hs' => by have h := c_compact [] xs st w hbo' (fun x hx => hcan x (hperm.mem_iff.1 hx)) hsort (by rw [hperm.length_eq]; exact hlen) (hs'.hp.sp (fun a => by simp -failIfUnchanged <;> omega)); rw [hveq] at h; exact h) ?_
  rintro v9 H1 ⟨ys, st', hset, hbo'', rfl, rfl⟩ hX3
  refine TE_q rfl rfl (RD.assign rfl) rfl ?_
  refine TE_nil0 ?_
  refine pn_ret ?_
  exact pn_doneS (bldMx 38 idC ys st') rfl rfl ⟨ys, st', hset.congr (fun x => hperm.mem_iff), hbo'', rfl, rfl⟩ (fun a => by simp -failIfUnchanged <;> omega) hX3

set_option maxHeartbeats 1000000 in
theorem c_r3Set (HX : Mem) (v : Value) (l : List (Nat → Int)) (w : World) (hb : Rdx 32 idC HX v l) (hcan : ∀ x ∈ l, IdCan x) (hlen : l.length ≤ 1000000) (hH : Hp HX w) : Calls Tryz.prog 82 #[v] w (Ret w [] fun r H1 => ∃ xs st, SetOf l xs ∧ BldOk 32 idC xs st ∧ r = bldVx xs st ∧ H1 = bldMx 38 idC xs st) := by
  refine fn_enter (args := [_]) Tryz.func82 rfl Tryz.ntmps82 rfl hH ?_
  refine pn_seq ?_
  refine pn_plain [] rfl ?_
  refine TE_q rfl rfl (RD.assign rfl) rfl ?_
  refine TE_nil0 ?_
  refine pn_seq ?_
  refine pn_plain [] rfl ?_
  refine TE_q rfl rfl (RD.assign rfl) rfl ?_
  refine TE_nil0 ?_
  refine pn_seq ?_
  refine pn_seq ?_
  refine pn_plain [] rfl ?_
  refine TE_q rfl rfl (RD.assign rfl) rfl ?_
  refine TE_nil0 ?_
  refine pn_block ?_
  refine pn_loopS (σ := Nat × List (Nat → Int) × SnkS) (fun q => [(4, .int .i64 (q.1 : Int)), (3, bldVx q.2.1 q.2.2), (0, v)]) (fun q => bldMx 38 idC q.2.1 q.2.2 ++ HX) (fun q => q.1 ≤ l.length ∧ BldOk 32 idC q.2.1 q.2.2 ∧ (∀ e ∈ bldMx 38 idC q.2.1 q.2.2, w.heap.size ≤ e.1 ∨ e.1 ∈ ([] : List Nat)) ∧ SetOf (l.take q.1) q.2.1 ∧ q.2.1.length ≤ q.1) (fun q => l.length - q.1) (0, [], none) ⟨Nat.zero_le _, BldOk.nil, by simp [bldMx], by simpa using SetOf.nil, Nat.le_refl _⟩ ⟨rfl, rfl, rfl, trivial⟩ (fun a => by simp -failIfUnchanged <;> omega) ?_
  rintro ⟨i, out, st⟩ ⟨hi, hbo, hX, hset, hol1⟩; dsimp only at hi hbo hX hset hol1 ⊢; have hol0 : out.length ≤ 1000000 := (by omega)
  refine pn_seq ?_
  refine pn_seq ?_
  refine pn_plain [2] rfl ?_
  refine TE_q rfl rfl (RD.move rfl) rfl ?_
  refine TE_q rfl rfl (RD.move rfl) rfl ?_
  refine TE_q rfl rfl (RD.lenX Tryz.runUnderlying48 rfl hb) rfl ?_
  refine TE_q rfl rfl (RD.lss rfl rfl) rfl ?_
  refine TE_nil0 ?_
  first | refine pn_condD rfl (fun hc0 => ?_) (fun hc0 => ?_) | refine pn_condN rfl (fun hc0 => ?_) (fun hc0 => ?_) | refine pn_cond rfl (fun hc0 => ?_) (fun hc0 => ?_)
  · refine pn_skip ?_
    refine pn_seq ?_
    refine pn_block ?_
    refine pn_seq ?_
    have hlt : i < l.length := (by omega); have hq9 : ∃ x, l[i]? = some x := ⟨_, List.getElem?_eq_getElem hlt⟩; obtain ⟨x, hx⟩ := hq9; have hq9 := hb.at hx; obtain ⟨b, off, cap, hv, hcap, hcell⟩ := hq9; have hol : out.length ≤ 1000000 := hol0; have hRo : Rdx 32 idC (bldMx 38 idC out st) (bldVx out st) out := hbo.rdx idC_len
    refine pn_plain [] rfl ?_
    refine TE_q rfl rfl (RD.move rfl) rfl ?_
    refine TE_q rfl rfl (RD.move rfl) rfl ?_
    refine TE_q rfl rfl (RD.move rfl) rfl ?_
    refine TE_q rfl rfl (RD.indexX (i := i) Tryz.runUnderlying48 Tryz.sizeOf38 (congrArg some hv) rfl rfl hlt) rfl ?_
    refine TE_l rfl rfl trivial rfl (RD.as (v := idV x) (RD.loadX (vs := idC x) Tryz.isAgg38 Tryz.sizeOf38 rfl rfl (fun w hw j u hu => hcell w (hw.sp (fun a => by simp -failIfUnchanged <;> omega)) j u hu)) (idC_agg _)) rfl ?_
    refine TE_call rfl rfl trivial Tryz.call101 rfl rfl rfl (fun w hs' => c_r3Has (bldMx 38 idC out st ++ HX) _ out x w (hRo.mono (fun _ hw => hw.sp (fun a => by simp -failIfUnchanged <;> omega))) hol (hs'.hp.sp (fun a => by simp -failIfUnchanged <;> omega))) ?_
    rintro v19 H5 ⟨rfl, rfl⟩ -
    refine TE_q rfl rfl (RD.assign rfl) rfl ?_
    refine TE_nil0 ?_
    refine pn_seq ?_
    refine pn_seq ?_
    refine pn_plain [] rfl ?_
    refine TE_q rfl rfl (RD.move rfl) rfl ?_
    refine TE_nil0 ?_
    first | refine pn_condD rfl (fun hc1 => ?_) (fun hc1 => ?_) | refine pn_condN rfl (fun hc1 => ?_) (fun hc1 => ?_) | refine pn_cond rfl (fun hc1 => ?_) (fun hc1 => ?_)
    · refine pn_exit ?_
      refine pn_plain [] rfl ?_
      refine TE_q rfl rfl (RD.move rfl) rfl ?_
      refine TE_q rfl rfl (RD.addI rfl rfl (by omega) (by omega)) rfl ?_
      refine TE_q rfl rfl (RD.assign rfl) rfl ?_
      refine TE_nil0 ?_
      (first | exact pn_againS (i + 1, out, st) ⟨by show i + 1 ≤ _; omega, hbo, hX, hset.same hx (has_mem (fun y hy => hcan y (List.take_subset _ _ ((hset.2 y).1 hy))) (hcan x (List.mem_of_getElem? hx)) (by simpa using hc1)), by show out.length ≤ i + 1; omega⟩ (by show l.length - (i + 1) < l.length - i; omega) ⟨rfl, rfl, rfl, trivial⟩ (fun a => by simp -failIfUnchanged <;> omega) | exact pn_againS (i + 1, ([] ++ out.take a ++ [x] ++ out.drop a), st3) ⟨by show i + 1 ≤ _; omega, hbo3, hX3, setOf_put hset hx hka hlo (fun z hz => by have hal := (List.getElem?_eq_some_iff.1 hz).1; first | (exfalso; omega) | (have h9 := (hy hal).1; rw [hz] at h9; cases h9; assumption)) (by simpa using hc1), by show List.length _ ≤ i + 1; simp; omega⟩ (by show l.length - (i + 1) < l.length - i; omega) ⟨rfl, rfl, rfl, trivial⟩ (fun a => by simp -failIfUnchanged <;> omega))
    · refine pn_skip ?_
      refine pn_seq ?_
      refine pn_plain [] rfl ?_
      refine TE_q rfl rfl (RD.assign rfl) rfl ?_
      refine TE_nil0 ?_
      refine pn_seq ?_
      refine pn_block ?_
      refine pn_loopS (σ := Nat) (fun a => [(6, .int .i64 (a : Int)), (4, .int .i64 (i : Int)), (3, bldVx out st), (0, v)]) (fun _ => (bldMx 38 idC out st ++ HX)) (fun a => a ≤ out.length ∧ ∀ (j : Nat) (y : Nat → Int), j < a → out[j]? = some y → idCmp y x < 0) (fun a => out.length - a) 0 ⟨Nat.zero_le _, fun _ _ h => absurd h (by omega)⟩ ⟨rfl, rfl, rfl, rfl, trivial⟩ (fun a => by simp -failIfUnchanged <;> omega) ?_
      rintro a ⟨hka, hlo⟩
      refine pn_seq ?_
      refine pn_seq ?_
      have hq9 := hRo.at_or (fun _ => 0) a; obtain ⟨y, bo, offo, capo, hy⟩ := hq9
      refine pn_drawT [2, 8, 12] [] [] [] (bldMx 38 idC out st ++ HX) rfl rfl (by kernel_rfl) (by kernel_rfl) rfl rfl ?_
      refine TE_q rfl rfl (RD.move rfl) rfl ?_
      refine TE_q rfl rfl (RD.move rfl) rfl ?_
      refine TE_q rfl rfl (RD.lenX Tryz.runUnderlying48 rfl hRo) rfl ?_
      refine TE_q rfl rfl (RD.lss rfl rfl) rfl ?_
      refine TE_q rfl rfl (RD.move rfl) rfl ?_
      (first | refine TE_isT ?_ | refine TE_isF ?_ | refine TE_dec (fun h804 => ?_) (fun h804 => ?_) | refine TE_ndec (fun h804 => ?_) (fun h804 => ?_) | refine TE_bool (fun h804 => ?_) (fun h804 => ?_))
      all_goals (first | (refine TE_s rfl rfl rfl rfl rfl ?_) | (refine TE_gq rfl rfl rfl rfl (RD.move rfl) rfl ?_))
      all_goals (first | (refine TE_s rfl rfl rfl rfl rfl ?_) | (refine TE_gq rfl rfl rfl rfl (RD.move rfl) rfl ?_))
      all_goals (first | (refine TE_s rfl rfl rfl rfl rfl ?_) | (refine TE_gq rfl rfl rfl rfl (RD.indexX (i := a) Tryz.runUnderlying48 Tryz.sizeOf38 (congrArg some (hy (by omega)).2.1) rfl rfl (by omega)) rfl ?_))
      all_goals (first | (refine TE_s rfl rfl rfl rfl rfl ?_) | (refine TE_gq rfl rfl rfl rfl (RD.as (v := idV y) (RD.loadX (vs := idC y) Tryz.isAgg38 Tryz.sizeOf38 rfl rfl (fun w hw j u hu => (hy (by omega)).2.2 w (hw.sp (fun a => by simp -failIfUnchanged <;> omega)) j u hu)) (idC_agg _)) rfl ?_))
      all_goals (first | (refine TE_s rfl rfl rfl rfl rfl ?_) | (refine TE_gq rfl rfl rfl rfl (RD.move rfl) rfl ?_))
      all_goals (first | (refine TE_s rfl rfl rfl rfl rfl ?_) | (refine TE_gq rfl rfl rfl rfl (RD.move rfl) rfl ?_))
      all_goals (first | (refine TE_s rfl rfl rfl rfl rfl ?_) | (refine TE_gq rfl rfl rfl rfl (RD.indexX (i := i) Tryz.runUnderlying48 Tryz.sizeOf38 (congrArg some hv) rfl rfl hlt) rfl ?_))
      all_goals (first | (refine TE_s rfl rfl rfl rfl rfl ?_) | (refine TE_gq rfl rfl rfl rfl (RD.as (v := idV x) (RD.loadX (vs := idC x) Tryz.isAgg38 Tryz.sizeOf38 rfl rfl (fun w hw j u hu => hcell w (hw.sp (fun a => by simp -failIfUnchanged <;> omega)) j u hu)) (idC_agg _)) rfl ?_))
      all_goals (first | (refine TE_s rfl rfl rfl rfl rfl ?_) | ((refine TE_call rfl rfl ⟨_, rfl, rfl⟩ Tryz.call102 rfl rfl rfl (fun w hs' => c_r3Cmp y x w) ?_; rintro v34 H13 ⟨rfl, rfl⟩ -)))
      all_goals (first | (refine TE_s rfl rfl rfl rfl rfl ?_) | (refine TE_gq rfl rfl rfl rfl (RD.lss rfl rfl) rfl ?_))
      all_goals (first | (refine TE_q rfl rfl (RD.pickT rfl rfl) rfl ?_) | (refine TE_q rfl rfl (RD.pickF rfl rfl) rfl ?_))
      all_goals refine TE_nil ?_
      all_goals first
        | (
            refine pn_condT rfl ?_
            refine pn_skip ?_
            refine pn_block ?_
            refine pn_plain [] rfl ?_
            refine TE_q rfl rfl (RD.move rfl) rfl ?_
            refine TE_q rfl rfl (RD.addI rfl rfl (by omega) (by omega)) rfl ?_
            refine TE_q rfl rfl (RD.assign rfl) rfl ?_
            refine TE_nil0 ?_
            (exact pn_againS (a + 1) ⟨by omega, fun j z h hz => by rcases Nat.lt_succ_iff_lt_or_eq.1 h with h | rfl; exact hlo j z h hz; have h9 := (hy (by omega)).1; rw [hz] at h9; cases h9; assumption⟩ (by show out.length - (a + 1) < out.length - a; omega) ⟨rfl, rfl, rfl, rfl, trivial⟩ (fun a => by simp -failIfUnchanged <;> omega)))
        | (
            refine pn_condF rfl ?_
            refine pn_exit ?_
            refine pn_seq ?_
            refine pn_plain [] rfl ?_
            refine TE_q rfl rfl (RD.assign rfl) rfl ?_
            refine TE_nil0 ?_
            refine pn_seq ?_
            refine pn_drawL [8] [] [] (seqT [0, 1, 2, 3, 5, 6, 7, 8] (.fork (seqT [4, 9, 10, 11] .nil) (seqT [9, 4, 10, 11] .nil))) [] (bldMx 38 idC out st ++ HX) rfl rfl (by kernel_rfl) (by kernel_rfl) rfl rfl ?_
            refine TE_q rfl rfl (RD.move rfl) rfl ?_
            refine TE_q rfl rfl (RD.move rfl) rfl ?_
            refine TE_q rfl rfl (RD.move rfl) rfl ?_
            refine TE_q rfl rfl (RD.sliceX (h := a) Tryz.runUnderlying48 Tryz.sizeOf38 rfl hRo rfl ⟨_, rfl⟩ (Nat.zero_le _) (by omega)) rfl ?_
            refine TE_q rfl rfl (RD.move rfl) rfl ?_
            refine TE_q rfl rfl (RD.move rfl) rfl ?_
            refine TE_q rfl rfl (RD.indexX (i := i) Tryz.runUnderlying48 Tryz.sizeOf38 (congrArg some hv) rfl rfl hlt) rfl ?_
            refine TE_q rfl rfl (RD.as (v := idV x) (RD.loadX (vs := idC x) Tryz.isAgg38 Tryz.sizeOf38 rfl rfl (fun w hw j u hu => hcell w (hw.sp (fun a => by simp -failIfUnchanged <;> omega)) j u hu)) (idC_agg _)) rfl ?_
            refine TE_fork ?_ ?_
            refine TE_appendX (st := none) (l := []) (ys := out.take a) ([]) idC_len idC_one rfl rfl rfl rfl trivial rfl Tryz.underlying48 elId rfl rfl rfl BldOk.nil (by simpa using hRo.sub (l := 0) (r := a) (Nat.zero_le _) (by omega)) (fun _ hw => hw.sp (fun a => by simp -failIfUnchanged <;> omega)) (by simp; omega) rfl (bldx_all (fun k => w.heap.size ≤ k ∨ k ∈ ([] : List Nat)) (by rintro b cap tl ⟨⟩)) ?_
            intro st1 hbo1 hX1 _
            refine TE_buildSlice (cells := (idV x).cells) rfl Tryz.runUnderlying48 Tryz.sizeOf38 Tryz.zeroValue38 rfl rfl rfl (by kernel_rfl) trivial rfl fun b48 hb48 => ?_
            refine TE_sp (bldMx 38 idC ([] ++ out.take a) st1 ++ ((b48, .cells (idV x).cells 38 (0, 0)) :: [])) (fun a => by simp -failIfUnchanged <;> omega) ?_
            refine TE_appendX (st := st1) (l := ([] ++ out.take a)) (ys := [x]) ((b48, .cells (idV x).cells 38 (0, 0)) :: []) idC_len idC_one rfl rfl rfl rfl trivial rfl Tryz.underlying48 elId rfl rfl rfl hbo1 (Rdx.blk (H := [(b48, .cells (idV x).cells 38 (0, 0))]) (i := 0) (tl := []) (c := 1) idC_len (by rw [cellsI]; rfl) rfl (Nat.le_refl _)) (fun _ hw => hw.sp (fun a => by simp -failIfUnchanged <;> omega)) (by simp; omega) rfl hX1 ?_
            intro st2 hbo2 hX2 _
            refine TE_q rfl rfl (RD.assign rfl) rfl ?_
            refine TE_nil ?_
            rotate_left
            refine TE_buildSlice (cells := (idV x).cells) rfl Tryz.runUnderlying48 Tryz.sizeOf38 Tryz.zeroValue38 rfl rfl rfl (by kernel_rfl) trivial rfl fun b48 hb48 => ?_
            refine TE_appendX (st := none) (l := []) (ys := out.take a) ((b48, .cells (idV x).cells 38 (0, 0)) :: []) idC_len idC_one rfl rfl rfl rfl trivial rfl Tryz.underlying48 elId rfl rfl rfl BldOk.nil (by simpa using hRo.sub (l := 0) (r := a) (Nat.zero_le _) (by omega)) (fun _ hw => hw.sp (fun a => by simp -failIfUnchanged <;> omega)) (by simp; omega) rfl (bldx_all (fun k => w.heap.size ≤ k ∨ k ∈ ([] : List Nat)) (by rintro b cap tl ⟨⟩)) ?_
            intro st1 hbo1 hX1 _
            refine TE_appendX (st := st1) (l := ([] ++ out.take a)) (ys := [x]) ((b48, .cells (idV x).cells 38 (0, 0)) :: []) idC_len idC_one rfl rfl rfl rfl trivial rfl Tryz.underlying48 elId rfl rfl rfl hbo1 (Rdx.blk (H := [(b48, .cells (idV x).cells 38 (0, 0))]) (i := 0) (tl := []) (c := 1) idC_len (by rw [cellsI]; rfl) rfl (Nat.le_refl _)) (fun _ hw => hw.sp (fun a => by simp -failIfUnchanged <;> omega)) (by simp; omega) rfl hX1 ?_
            intro st2 hbo2 hX2 _
            refine TE_q rfl rfl (RD.assign rfl) rfl ?_
            refine TE_nil ?_
            all_goals (refine pn_sp (bldMx 38 idC ([] ++ out.take a ++ [x]) st2 ++ ((b48, .cells (idV x).cells 38 (0, 0)) :: (bldMx 38 idC out st ++ HX))) (fun a => by simp -failIfUnchanged <;> omega) ?_)
            all_goals refine pn_plain [] rfl ?_
            all_goals refine TE_q rfl rfl (RD.move rfl) rfl ?_
            all_goals refine TE_q rfl rfl (RD.move rfl) rfl ?_
            all_goals refine TE_q rfl rfl (RD.move rfl) rfl ?_
            all_goals refine TE_q rfl rfl (RD.sliceX (l := a) (h := out.length) Tryz.runUnderlying48 Tryz.sizeOf38 rfl hRo ⟨_, rfl⟩ rfl (by omega) (Nat.le_refl _)) rfl ?_
            all_goals refine TE_appendX (st := st2) (l := ([] ++ out.take a ++ [x])) (ys := out.drop a) ((b48, .cells (idV x).cells 38 (0, 0)) :: (bldMx 38 idC out st ++ HX)) idC_len idC_one rfl rfl rfl rfl trivial rfl Tryz.underlying48 elId rfl rfl rfl hbo2 (by simpa using hRo.sub (l := a) (r := out.length) (by omega) (Nat.le_refl _)) (fun _ hw => hw.sp (fun a => by simp -failIfUnchanged <;> omega)) (by simp; omega) rfl hX2 ?_
            all_goals (intro st3 hbo3 hX3 _)
            all_goals refine TE_q rfl rfl (RD.assign rfl) rfl ?_
            all_goals refine TE_nil0 ?_
            all_goals refine pn_plain [] rfl ?_
            all_goals refine TE_q rfl rfl (RD.move rfl) rfl ?_
            all_goals refine TE_q rfl rfl (RD.addI rfl rfl (by omega) (by omega)) rfl ?_
            all_goals refine TE_q rfl rfl (RD.assign rfl) rfl ?_
            all_goals refine TE_nil0 ?_
            all_goals (first | exact pn_againS (i + 1, out, st) ⟨by show i + 1 ≤ _; omega, hbo, hX, hset.same hx (has_mem (fun y hy => hcan y (List.take_subset _ _ ((hset.2 y).1 hy))) (hcan x (List.mem_of_getElem? hx)) (by simpa using hc1)), by show out.length ≤ i + 1; omega⟩ (by show l.length - (i + 1) < l.length - i; omega) ⟨rfl, rfl, rfl, trivial⟩ (fun a => by simp -failIfUnchanged <;> omega) | exact pn_againS (i + 1, ([] ++ out.take a ++ [x] ++ out.drop a), st3) ⟨by show i + 1 ≤ _; omega, hbo3, hX3, setOf_put hset hx hka hlo (fun z hz => by have hal := (List.getElem?_eq_some_iff.1 hz).1; first | (exfalso; omega) | (have h9 := (hy hal).1; rw [hz] at h9; cases h9; assumption)) (by simpa using hc1), by show List.length _ ≤ i + 1; simp; omega⟩ (by show l.length - (i + 1) < l.length - i; omega) ⟨rfl, rfl, rfl, trivial⟩ (fun a => by simp -failIfUnchanged <;> omega)))
        | (
            first | refine pn_condD rfl (fun hc2 => ?_) (fun hc2 => ?_) | refine pn_condN rfl (fun hc2 => ?_) (fun hc2 => ?_) | refine pn_cond rfl (fun hc2 => ?_) (fun hc2 => ?_)
            · refine pn_skip ?_
              refine pn_block ?_
              refine pn_plain [] rfl ?_
              refine TE_q rfl rfl (RD.move rfl) rfl ?_
              refine TE_q rfl rfl (RD.addI rfl rfl (by omega) (by omega)) rfl ?_
              refine TE_q rfl rfl (RD.assign rfl) rfl ?_
              refine TE_nil0 ?_
              (exact pn_againS (a + 1) ⟨by omega, fun j z h hz => by rcases Nat.lt_succ_iff_lt_or_eq.1 h with h | rfl; exact hlo j z h hz; have h9 := (hy (by omega)).1; rw [hz] at h9; cases h9; assumption⟩ (by show out.length - (a + 1) < out.length - a; omega) ⟨rfl, rfl, rfl, rfl, trivial⟩ (fun a => by simp -failIfUnchanged <;> omega))
            · refine pn_exit ?_
              refine pn_seq ?_
              refine pn_plain [] rfl ?_
              refine TE_q rfl rfl (RD.assign rfl) rfl ?_
              refine TE_nil0 ?_
              refine pn_seq ?_
              refine pn_drawL [8] [] [] (seqT [0, 1, 2, 3, 5, 6, 7, 8] (.fork (seqT [4, 9, 10, 11] .nil) (seqT [9, 4, 10, 11] .nil))) [] (bldMx 38 idC out st ++ HX) rfl rfl (by kernel_rfl) (by kernel_rfl) rfl rfl ?_
              refine TE_q rfl rfl (RD.move rfl) rfl ?_
              refine TE_q rfl rfl (RD.move rfl) rfl ?_
              refine TE_q rfl rfl (RD.move rfl) rfl ?_
              refine TE_q rfl rfl (RD.sliceX (h := a) Tryz.runUnderlying48 Tryz.sizeOf38 rfl hRo rfl ⟨_, rfl⟩ (Nat.zero_le _) (by omega)) rfl ?_
              refine TE_q rfl rfl (RD.move rfl) rfl ?_
              refine TE_q rfl rfl (RD.move rfl) rfl ?_
              refine TE_q rfl rfl (RD.indexX (i := i) Tryz.runUnderlying48 Tryz.sizeOf38 (congrArg some hv) rfl rfl hlt) rfl ?_
              refine TE_q rfl rfl (RD.as (v := idV x) (RD.loadX (vs := idC x) Tryz.isAgg38 Tryz.sizeOf38 rfl rfl (fun w hw j u hu => hcell w (hw.sp (fun a => by simp -failIfUnchanged <;> omega)) j u hu)) (idC_agg _)) rfl ?_
              refine TE_fork ?_ ?_
              refine TE_appendX (st := none) (l := []) (ys := out.take a) ([]) idC_len idC_one rfl rfl rfl rfl trivial rfl Tryz.underlying48 elId rfl rfl rfl BldOk.nil (by simpa using hRo.sub (l := 0) (r := a) (Nat.zero_le _) (by omega)) (fun _ hw => hw.sp (fun a => by simp -failIfUnchanged <;> omega)) (by simp; omega) rfl (bldx_all (fun k => w.heap.size ≤ k ∨ k ∈ ([] : List Nat)) (by rintro b cap tl ⟨⟩)) ?_
              intro st1 hbo1 hX1 _
              refine TE_buildSlice (cells := (idV x).cells) rfl Tryz.runUnderlying48 Tryz.sizeOf38 Tryz.zeroValue38 rfl rfl rfl (by kernel_rfl) trivial rfl fun b48 hb48 => ?_
              refine TE_sp (bldMx 38 idC ([] ++ out.take a) st1 ++ ((b48, .cells (idV x).cells 38 (0, 0)) :: [])) (fun a => by simp -failIfUnchanged <;> omega) ?_
              refine TE_appendX (st := st1) (l := ([] ++ out.take a)) (ys := [x]) ((b48, .cells (idV x).cells 38 (0, 0)) :: []) idC_len idC_one rfl rfl rfl rfl trivial rfl Tryz.underlying48 elId rfl rfl rfl hbo1 (Rdx.blk (H := [(b48, .cells (idV x).cells 38 (0, 0))]) (i := 0) (tl := []) (c := 1) idC_len (by rw [cellsI]; rfl) rfl (Nat.le_refl _)) (fun _ hw => hw.sp (fun a => by simp -failIfUnchanged <;> omega)) (by simp; omega) rfl hX1 ?_
              intro st2 hbo2 hX2 _
              refine TE_q rfl rfl (RD.assign rfl) rfl ?_
              refine TE_nil ?_
              rotate_left
              refine TE_buildSlice (cells := (idV x).cells) rfl Tryz.runUnderlying48 Tryz.sizeOf38 Tryz.zeroValue38 rfl rfl rfl (by kernel_rfl) trivial rfl fun b48 hb48 => ?_
              refine TE_appendX (st := none) (l := []) (ys := out.take a) ((b48, .cells (idV x).cells 38 (0, 0)) :: []) idC_len idC_one rfl rfl rfl rfl trivial rfl Tryz.underlying48 elId rfl rfl rfl BldOk.nil (by simpa using hRo.sub (l := 0) (r := a) (Nat.zero_le _) (by omega)) (fun _ hw => hw.sp (fun a => by simp -failIfUnchanged <;> omega)) (by simp; omega) rfl (bldx_all (fun k => w.heap.size ≤ k ∨ k ∈ ([] : List Nat)) (by rintro b cap tl ⟨⟩)) ?_
              intro st1 hbo1 hX1 _
              refine TE_appendX (st := st1) (l := ([] ++ out.take a)) (ys := [x]) ((b48, .cells (idV x).cells 38 (0, 0)) :: []) idC_len idC_one rfl rfl rfl rfl trivial rfl Tryz.underlying48 elId rfl rfl rfl hbo1 (Rdx.blk (H := [(b48, .cells (idV x).cells 38 (0, 0))]) (i := 0) (tl := []) (c := 1) idC_len (by rw [cellsI]; rfl) rfl (Nat.le_refl _)) (fun _ hw => hw.sp (fun a => by simp -failIfUnchanged <;> omega)) (by simp; omega) rfl hX1 ?_
              intro st2 hbo2 hX2 _
              refine TE_q rfl rfl (RD.assign rfl) rfl ?_
              refine TE_nil ?_
              all_goals (refine pn_sp (bldMx 38 idC ([] ++ out.take a ++ [x]) st2 ++ ((b48, .cells (idV x).cells 38 (0, 0)) :: (bldMx 38 idC out st ++ HX))) (fun a => by simp -failIfUnchanged <;> omega) ?_)
              all_goals refine pn_plain [] rfl ?_
              all_goals refine TE_q rfl rfl (RD.move rfl) rfl ?_
              all_goals refine TE_q rfl rfl (RD.move rfl) rfl ?_
              all_goals refine TE_q rfl rfl (RD.move rfl) rfl ?_
              all_goals refine TE_q rfl rfl (RD.sliceX (l := a) (h := out.length) Tryz.runUnderlying48 Tryz.sizeOf38 rfl hRo ⟨_, rfl⟩ rfl (by omega) (Nat.le_refl _)) rfl ?_
              all_goals refine TE_appendX (st := st2) (l := ([] ++ out.take a ++ [x])) (ys := out.drop a) ((b48, .cells (idV x).cells 38 (0, 0)) :: (bldMx 38 idC out st ++ HX)) idC_len idC_one rfl rfl rfl rfl trivial rfl Tryz.underlying48 elId rfl rfl rfl hbo2 (by simpa using hRo.sub (l := a) (r := out.length) (by omega) (Nat.le_refl _)) (fun _ hw => hw.sp (fun a => by simp -failIfUnchanged <;> omega)) (by simp; omega) rfl hX2 ?_
              all_goals (intro st3 hbo3 hX3 _)
              all_goals refine TE_q rfl rfl (RD.assign rfl) rfl ?_
              all_goals refine TE_nil0 ?_
              all_goals refine pn_plain [] rfl ?_
              all_goals refine TE_q rfl rfl (RD.move rfl) rfl ?_
              all_goals refine TE_q rfl rfl (RD.addI rfl rfl (by omega) (by omega)) rfl ?_
              all_goals refine TE_q rfl rfl (RD.assign rfl) rfl ?_
              all_goals refine TE_nil0 ?_
              all_goals (first | exact pn_againS (i + 1, out, st) ⟨by show i + 1 ≤ _; omega, hbo, hX, hset.same hx (has_mem (fun y hy => hcan y (List.take_subset _ _ ((hset.2 y).1 hy))) (hcan x (List.mem_of_getElem? hx)) (by simpa using hc1)), by show out.length ≤ i + 1; omega⟩ (by show l.length - (i + 1) < l.length - i; omega) ⟨rfl, rfl, rfl, trivial⟩ (fun a => by simp -failIfUnchanged <;> omega) | exact pn_againS (i + 1, ([] ++ out.take a ++ [x] ++ out.drop a), st3) ⟨by show i + 1 ≤ _; omega, hbo3, hX3, setOf_put hset hx hka hlo (fun z hz => by have hal := (List.getElem?_eq_some_iff.1 hz).1; first | (exfalso; omega) | (have h9 := (hy hal).1; rw [hz] at h9; cases h9; assumption)) (by simpa using hc1), by show List.length _ ≤ i + 1; simp; omega⟩ (by show l.length - (i + 1) < l.length - i; omega) ⟨rfl, rfl, rfl, trivial⟩ (fun a => by simp -failIfUnchanged <;> omega)))
  · refine pn_exit ?_
    refine pn_seq ?_
    refine pn_plain [] rfl ?_
    refine TE_q rfl rfl (RD.move rfl) rfl ?_
    refine TE_q rfl rfl (RD.assign rfl) rfl ?_
    refine TE_nil0 ?_
    refine pn_ret ?_
    exact pn_doneS (bldMx 38 idC out st) rfl rfl ⟨out, st, by rwa [List.take_of_length_le (by omega)] at hset, hbo, rfl, rfl⟩ (fun a => by simp -failIfUnchanged <;> omega) hX

end Go.Proofs.YtiefjfcfijcgmaaGreatDoor
