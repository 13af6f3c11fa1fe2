import Derived.Test.YtjdjlcmajeikcaaIds
import Derived.Test.YtjdjlcmajeikcaaSrt
namespace Go.Proofs.Ytjdjlcmajeikcaa
open Go Go.Mv
set_option maxRecDepth 8000
theorem c_cloneI (H : Mem) (xv : Value) (ys : List (Nat → Int)) (w : World) (hH : Hp H w) (hb : Rdx 32 idC H xv ys) (hlen : ys.length ≤ 1000000) : Calls Try.prog 24 #[xv] w (Ret w [] fun v H1 => ∃ st, BldOk 32 idC ys st ∧ v = bldVx ys st ∧ H1 = bldMx 25 idC ys st) := by
  rcases hb with ⟨rfl, rfl⟩ | ⟨b, off, cap, rfl, hcap, hcell⟩
  · refine fn_enter (args := [_]) Try.func24 rfl Try.ntmps24 rfl hH ?_
    refine pn_seq ?_
    refine pn_plain [] rfl ?_
    refine TE_q rfl rfl (RD.assign rfl) rfl ?_
    refine TE_nil0 ?_
    refine pn_seq ?_
    refine pn_seq ?_
    refine pn_plain [] rfl ?_
    refine TE_q rfl rfl (RD.move rfl) rfl ?_
    refine TE_q rfl rfl (RD.sl_eql_nil Try.runUnderlying26 rfl rfl) rfl ?_
    refine TE_nil0 ?_
    refine pn_condT rfl ?_
    refine pn_seq ?_
    refine pn_plain [] rfl ?_
    refine TE_q rfl rfl (RD.assign rfl) rfl ?_
    refine TE_nil0 ?_
    refine pn_ret ?_
    exact pn_done (H1 := []) rfl rfl ⟨none, rfl, rfl, rfl⟩ (List.nil_sublist _) (by simp)
  · have hb : Rdx 32 idC H (.slice (some ⟨b, off, none⟩) ys.length cap) ys := .inr ⟨b, off, cap, rfl, hcap, hcell⟩
    refine fn_enter (args := [_]) Try.func24 rfl Try.ntmps24 rfl hH ?_
    refine pn_seq ?_
    refine pn_plain [] rfl ?_
    refine TE_q rfl rfl (RD.assign rfl) rfl ?_
    refine TE_nil0 ?_
    refine pn_seq ?_
    refine pn_seq ?_
    refine pn_plain [] rfl ?_
    refine TE_q rfl rfl (RD.move rfl) rfl ?_
    refine TE_q rfl rfl (RD.sl_eql_nil Try.runUnderlying26 rfl rfl) rfl ?_
    refine TE_nil0 ?_
    refine pn_condF rfl ?_
    refine pn_skip ?_
    refine pn_seq ?_
    refine pn_plain [] rfl ?_
    refine TE_buildSlice0 rfl Try.runUnderlying26 Try.sizeOf25 trivial rfl fun b5 hb5 => ?_
    refine TE_q rfl rfl (RD.move rfl) rfl ?_
    refine TE_appendX (st := some (b5, 0, [])) (l := []) H idC_len idC_one rfl rfl rfl rfl trivial rfl Try.underlying26 elId rfl rfl rfl ⟨Nat.le_refl _, by decide, rfl⟩ hb (fun _ hw => hw.sp (fun a => by simp -failIfUnchanged <;> omega)) (by simp; omega) rfl (bldx_all (fun k => w.heap.size ≤ k ∨ k ∈ []) (by rintro b cap tl ⟨⟩; exact .inl hb5)) ?_
    intro st hok hX _
    refine TE_q rfl rfl (RD.assign rfl) rfl ?_
    refine TE_nil0 ?_
    refine pn_ret ?_
    exact pn_done rfl rfl ⟨st, hok, rfl, rfl⟩ (List.sublist_append_left _ _) (fun e he => (hX e he).symm)

theorem zeroI_one : ∀ v ∈ ((idV fun _ => 0).cells).toList, v.oneCell' = true := List.all_eq_true.1 rfl
theorem zeroI_ok : IdOk fun _ => 0 := fun _ => by show (0 : Int) ≤ 0 ∧ (0 : Int) ≤ 255; omega
theorem setOf_self {l : List (Nat → Int)} (h : l.length < 2) : SetOf l l := by
  match l, h with
  | [], _ => exact SetOf.nil
  | [x], _ => exact ⟨by simp, fun _ => Iff.rfl⟩
theorem setOf_take {l : List (Nat → Int)} {k : Nat} (h : SetOf (l.take k) (l.take k)) (hk : l.length ≤ k) : SetOf l l := by rwa [List.take_of_length_le hk] at h

set_option maxHeartbeats 1000000 in
theorem c_compact (HC : Mem) (l : List (Nat → Int)) (st : SnkS) (w : World) (hbo : BldOk 32 idC l st) (hcan : ∀ x ∈ l, IdCan x) (hsort : l.Pairwise fun x y => ¬ idCmp y x < 0) (hlen : l.length ≤ 1000000) (hH : Hp (bldMx 25 idC l st ++ HC) w) : Calls Try.prog 98 #[bldVx l st] w (Ret w (keys (bldMx 25 idC l st)) fun r H1 => ∃ xs st', SetOf l xs ∧ BldOk 32 idC xs st' ∧ r = bldVx xs st' ∧ H1 = bldMx 25 idC xs st') := by
  have hRl : Rdx 32 idC (bldMx 25 idC l st) (bldVx l st) l := hbo.rdx idC_len
  refine fn_enter (args := [_]) Try.func98 rfl Try.ntmps98 rfl hH ?_
  refine pn_seq ?_
  refine pn_plain [] rfl ?_
  refine TE_q rfl rfl (RD.assign rfl) rfl ?_
  refine TE_nil0 ?_
  refine pn_seq ?_
  refine pn_seq ?_
  refine pn_plain [1] rfl ?_
  refine TE_q rfl rfl (RD.move rfl) rfl ?_
  refine TE_q rfl rfl (RD.lenX Try.runUnderlying26 rfl hRl) rfl ?_
  refine TE_q rfl rfl (RD.lss rfl rfl) rfl ?_
  refine TE_nil0 ?_
  first | refine pn_condD rfl (fun hc0 => ?_) (fun hc0 => ?_) | refine pn_condN rfl (fun hc0 => ?_) (fun hc0 => ?_) | refine pn_cond rfl (fun hc0 => ?_) (fun hc0 => ?_)
  · refine pn_seq ?_
    refine pn_plain [] rfl ?_
    refine TE_q rfl rfl (RD.move rfl) rfl ?_
    refine TE_q rfl rfl (RD.assign rfl) rfl ?_
    refine TE_nil0 ?_
    refine pn_ret ?_
    exact pn_done rfl rfl ⟨l, st, setOf_self (by omega), hbo, rfl, rfl⟩ (List.sublist_append_left _ _) (fun e he => .inl (List.mem_map_of_mem he))
  · refine pn_skip ?_
    refine pn_seq ?_
    refine pn_seq ?_
    have hq9 := hbo.some_of (fun h => hc0 (by rw [h]; decide)); obtain ⟨b0, cap0, tl0, rfl⟩ := hq9
    refine pn_plain [] rfl ?_
    refine TE_q rfl rfl (RD.assign rfl) rfl ?_
    refine TE_nil0 ?_
    refine pn_block ?_
    refine pn_loop (σ := Nat) (fun k => [(3, .int .i64 (k : Int)), (0, .slice (some ⟨b0, 0, none⟩) l.length cap0)]) (fun _ => bldMx 25 idC l (some (b0, cap0, tl0)) ++ HC) (fun k => 1 ≤ k ∧ k ≤ l.length ∧ SetOf (l.take k) (l.take k)) (fun k => l.length - k) 1 ⟨Nat.le_refl _, by omega, setOf_self (by rw [List.length_take]; omega)⟩ ⟨rfl, rfl, trivial⟩ (List.Sublist.refl _) ?_
    rintro k ⟨hk1, hk2, hset⟩
    refine pn_seq ?_
    refine pn_seq ?_
    refine pn_plain [2] rfl ?_
    refine TE_q rfl rfl (RD.move rfl) rfl ?_
    refine TE_q rfl rfl (RD.move rfl) rfl ?_
    refine TE_q rfl rfl (RD.lenX Try.runUnderlying26 rfl hRl) rfl ?_
    refine TE_q rfl rfl (RD.lss rfl rfl) rfl ?_
    refine TE_nil0 ?_
    first | refine pn_condD rfl (fun hc1 => ?_) (fun hc1 => ?_) | refine pn_condN rfl (fun hc1 => ?_) (fun hc1 => ?_) | refine pn_cond rfl (fun hc1 => ?_) (fun hc1 => ?_)
    · refine pn_skip ?_
      refine pn_seq ?_
      refine pn_block ?_
      refine pn_seq ?_
      have hkl : k < l.length := (by omega); have hq9 : ∃ x, l[k]? = some x := ⟨_, List.getElem?_eq_getElem hkl⟩; obtain ⟨x, hx⟩ := hq9; have hq9 : ∃ p, l[k - 1]? = some p := ⟨_, List.getElem?_eq_getElem (by omega)⟩; obtain ⟨p, hp⟩ := hq9; have hcx := hbo.cell (u := 25) idC_len hx; have hcp := hbo.cell (u := 25) idC_len hp; have hnx := srt_next (m := k - 1) hsort hcan (by rw [show k - 1 + 1 = k from by omega]; exact hset) hp (by rw [show k - 1 + 1 = k from by omega]; exact hx); rw [show k - 1 + 1 = k from by omega] at hnx
      refine pn_drawT [3, 8] [] [] [] (bldMx 25 idC l (some (b0, cap0, tl0)) ++ HC) rfl rfl (by kernel_rfl) (by kernel_rfl) rfl rfl ?_
      refine TE_q rfl rfl (RD.move rfl) rfl ?_
      refine TE_q rfl rfl (RD.move rfl) rfl ?_
      refine TE_q rfl rfl (RD.indexX (i := k) (len := l.length) (cap := cap0) (b := b0) (off := 0) Try.runUnderlying26 Try.sizeOf25 rfl rfl rfl hkl) rfl ?_
      refine TE_q rfl rfl (RD.as (v := idV x) (RD.loadX (vs := idC x) Try.isAgg25 Try.sizeOf25 rfl rfl (fun w hw j u hu => hcx w (hw.sp (fun a => by simp -failIfUnchanged <;> omega)) j u hu)) (idC_agg _)) rfl ?_
      refine TE_q rfl rfl (RD.move rfl) rfl ?_
      refine TE_q rfl rfl (RD.move rfl) rfl ?_
      refine TE_q rfl rfl (RD.subI rfl rfl (by omega) (by omega)) rfl ?_
      refine TE_q rfl rfl (RD.indexX (i := k - 1) (len := l.length) (cap := cap0) (b := b0) (off := 0) Try.runUnderlying26 Try.sizeOf25 rfl rfl (by omega) (by omega)) rfl ?_
      refine TE_q rfl rfl (RD.as (v := idV p) (RD.loadX (vs := idC p) Try.isAgg25 Try.sizeOf25 rfl rfl (fun w hw j u hu => hcp w (hw.sp (fun a => by simp -failIfUnchanged <;> omega)) j u hu)) (idC_agg _)) rfl ?_
      refine TE_q rfl rfl (RD.eql_agg Try.eqGuardType25 (eq_id x p) rfl rfl) rfl ?_
      refine TE_nil ?_
      first | refine pn_condD rfl (fun hc2 => ?_) (fun hc2 => ?_) | refine pn_condN rfl (fun hc2 => ?_) (fun hc2 => ?_) | refine pn_cond rfl (fun hc2 => ?_) (fun hc2 => ?_)
      · refine pn_seq ?_
        refine pn_plain [] rfl ?_
        refine TE_q rfl rfl (RD.move rfl) rfl ?_
        refine TE_q rfl rfl (RD.move rfl) rfl ?_
        refine TE_q rfl rfl (RD.as (v := .slice (some ⟨b0, 0 + k * 32, none⟩) (l.length - k) (cap0 - k)) (RD.sliceX (l := k) (h := l.length) Try.runUnderlying26 Try.sizeOf25 rfl hRl ⟨_, rfl⟩ rfl (by omega) (Nat.le_refl _)) (by have hcl : l.length ≤ cap0 := hbo.1; show subVx 32 k l.length (.slice (some ⟨b0, 0, none⟩) l.length cap0) = _; simp only [subVx]; rw [if_neg (by omega)])) rfl ?_
        refine TE_q rfl rfl (RD.assign rfl) rfl ?_
        refine TE_nil0 ?_
        refine pn_seq ?_
        refine pn_seq ?_
        refine pn_plain [] rfl ?_
        refine TE_q rfl rfl (RD.assign rfl) rfl ?_
        refine TE_nil0 ?_
        refine pn_block ?_
        obtain ⟨k0, rfl⟩ : ∃ k0, k0 = k := ⟨k, rfl⟩; refine pn_loop (σ := Nat × Nat × List (Nat → Int)) (fun q => [(5, .int .i64 (q.2.1 : Int)), (3, .int .i64 (q.1 : Int)), (4, .slice (some ⟨b0, 0 + k0 * 32, none⟩) (l.length - k0) (cap0 - k0)), (0, .slice (some ⟨b0, 0, none⟩) l.length cap0)]) (fun q => bldMx 25 idC q.2.2 (some (b0, cap0, tl0)) ++ HC) (fun q => k0 ≤ q.1 ∧ q.1 < k0 + q.2.1 ∧ 1 ≤ q.2.1 ∧ k0 + q.2.1 ≤ l.length ∧ q.2.2.length = l.length ∧ BldOk 32 idC q.2.2 (some (b0, cap0, tl0)) ∧ SetOf (l.take (k0 + q.2.1)) (q.2.2.take q.1) ∧ ∀ j, k0 + q.2.1 - 1 ≤ j → q.2.2[j]? = l[j]?) (fun q => l.length - q.2.1) (k0, 1, l) ⟨Nat.le_refl _, Nat.lt_succ_self _, Nat.le_refl _, by show k0 + 1 ≤ l.length; omega, rfl, hbo, hnx.1 (by simpa using hc2), fun _ _ => rfl⟩ ⟨rfl, rfl, rfl, rfl, trivial⟩ (List.Sublist.refl _) ?_
        rintro ⟨k, k2, zs⟩ ⟨hk3, hk4, hk5, hk6, hzl, hbz, hset2, hdr⟩; dsimp only at hk3 hk4 hk5 hk6 hzl hset2 hdr ⊢; have hbz : BldOk 32 idC zs (some (b0, cap0, tl0)) := hbz
        refine pn_seq ?_
        refine pn_seq ?_
        refine pn_plain [2] rfl ?_
        refine TE_q rfl rfl (RD.move rfl) rfl ?_
        refine TE_q rfl rfl (RD.move rfl) rfl ?_
        refine TE_q rfl rfl (RD.len_slice Try.runUnderlying26 rfl) rfl ?_
        refine TE_q rfl rfl (RD.lss rfl rfl) rfl ?_
        refine TE_nil0 ?_
        first | refine pn_condD rfl (fun hc3 => ?_) (fun hc3 => ?_) | refine pn_condN rfl (fun hc3 => ?_) (fun hc3 => ?_) | refine pn_cond rfl (fun hc3 => ?_) (fun hc3 => ?_)
        · refine pn_skip ?_
          refine pn_seq ?_
          refine pn_block ?_
          refine pn_seq ?_
          have hjl : k0 + k2 < l.length := (by omega); have hq9 : ∃ x, l[k0 + k2]? = some x := ⟨_, List.getElem?_eq_getElem hjl⟩; obtain ⟨y, hy⟩ := hq9; have hq9 : ∃ q, l[k0 + k2 - 1]? = some q := ⟨_, List.getElem?_eq_getElem (by omega)⟩; obtain ⟨q, hq⟩ := hq9; have hyz := hdr (k0 + k2) (by omega); have hqz := hdr (k0 + k2 - 1) (by omega); rw [hy] at hyz; rw [hq] at hqz; have hcy := hbz.cell (u := 25) idC_len hyz; have hcq := hbz.cell (u := 25) idC_len hqz; rw [show 0 + (k0 + k2) * 32 = 0 + k0 * 32 + k2 * 32 from by omega] at hcy; rw [show 0 + (k0 + k2 - 1) * 32 = 0 + k0 * 32 + (k2 - 1) * 32 from by omega] at hcq; have hnx := srt_next (m := k0 + k2 - 1) hsort hcan (by rw [show k0 + k2 - 1 + 1 = k0 + k2 from by omega]; exact hset2) hq (by rw [show k0 + k2 - 1 + 1 = k0 + k2 from by omega]; exact hy); rw [show k0 + k2 - 1 + 1 = k0 + k2 from by omega] at hnx
          refine pn_drawT [3, 8] [] [] [] (bldMx 25 idC zs (some (b0, cap0, tl0)) ++ HC) rfl rfl (by kernel_rfl) (by kernel_rfl) rfl rfl ?_
          refine TE_q rfl rfl (RD.move rfl) rfl ?_
          refine TE_q rfl rfl (RD.move rfl) rfl ?_
          refine TE_q rfl rfl (RD.indexX (i := k2) (len := l.length - k0) (cap := cap0 - k0) (b := b0) (off := 0 + k0 * 32) Try.runUnderlying26 Try.sizeOf25 rfl rfl rfl (by omega)) rfl ?_
          refine TE_q rfl rfl (RD.as (v := idV y) (RD.loadX (vs := idC y) Try.isAgg25 Try.sizeOf25 rfl rfl (fun w hw j u hu => hcy w (hw.sp (fun a => by simp -failIfUnchanged <;> omega)) j u hu)) (idC_agg _)) rfl ?_
          refine TE_q rfl rfl (RD.move rfl) rfl ?_
          refine TE_q rfl rfl (RD.move rfl) rfl ?_
          refine TE_q rfl rfl (RD.subI rfl rfl (by omega) (by omega)) rfl ?_
          refine TE_q rfl rfl (RD.indexX (i := k2 - 1) (len := l.length - k0) (cap := cap0 - k0) (b := b0) (off := 0 + k0 * 32) Try.runUnderlying26 Try.sizeOf25 rfl rfl (by omega) (by omega)) rfl ?_
          refine TE_q rfl rfl (RD.as (v := idV q) (RD.loadX (vs := idC q) Try.isAgg25 Try.sizeOf25 rfl rfl (fun w hw j u hu => hcq w (hw.sp (fun a => by simp -failIfUnchanged <;> omega)) j u hu)) (idC_agg _)) rfl ?_
          refine TE_q rfl rfl (RD.neq_agg Try.eqGuardType25 (eq_id y q) rfl rfl) rfl ?_
          refine TE_nil ?_
          first | refine pn_condD rfl (fun hc4 => ?_) (fun hc4 => ?_) | refine pn_condN rfl (fun hc4 => ?_) (fun hc4 => ?_) | refine pn_cond rfl (fun hc4 => ?_) (fun hc4 => ?_)
          · refine pn_seq ?_
            refine pn_sp (bldMx 25 idC zs (some (b0, cap0, tl0)) ++ HC) (fun a => by simp -failIfUnchanged <;> omega) ?_
            refine pn_plain [] rfl ?_
            refine TE_q rfl rfl (RD.move rfl) rfl ?_
            refine TE_q rfl rfl (RD.move rfl) rfl ?_
            refine TE_q rfl rfl (RD.move rfl) rfl ?_
            refine TE_q rfl rfl (RD.move rfl) rfl ?_
            refine TE_q rfl rfl (RD.indexX (i := k2) (len := l.length - k0) (cap := cap0 - k0) (b := b0) (off := 0 + k0 * 32) Try.runUnderlying26 Try.sizeOf25 rfl rfl rfl (by omega)) rfl ?_
            refine TE_l rfl rfl trivial rfl (RD.as (v := idV y) (RD.loadX (vs := idC y) Try.isAgg25 Try.sizeOf25 rfl rfl (fun w hw j u hu => hcy w (hw.sp (fun a => by simp -failIfUnchanged <;> omega)) j u hu)) (idC_agg _)) rfl ?_
            refine TE_q rfl rfl (RD.indexX (i := k) (len := l.length) (cap := cap0) (b := b0) (off := 0) Try.runUnderlying26 Try.sizeOf25 rfl rfl rfl (by omega)) rfl ?_
            refine TE_setE (i := k) (z := y) HC idC_len idC_one rfl rfl Try.sizeOf25 trivial rfl rfl rfl (by omega) (by omega) (.inr (by simp [keys, bldMx])) ?_
            refine TE_nil0 ?_
            refine pn_plain [] rfl ?_
            refine TE_q rfl rfl (RD.move rfl) rfl ?_
            refine TE_q rfl rfl (RD.addI rfl rfl (by omega) (by omega)) rfl ?_
            refine TE_q rfl rfl (RD.assign rfl) rfl ?_
            refine TE_nil0 ?_
            refine pn_plain [] rfl ?_
            refine TE_q rfl rfl (RD.move rfl) rfl ?_
            refine TE_q rfl rfl (RD.addI rfl rfl (by omega) (by omega)) rfl ?_
            refine TE_q rfl rfl (RD.assign rfl) rfl ?_
            refine TE_nil0 ?_
            (first | exact pn_again (k + 1, k2 + 1, zs.set k y) ⟨by show k0 ≤ k + 1; omega, by show k + 1 < k0 + (k2 + 1); omega, by show 1 ≤ k2 + 1; omega, by show k0 + (k2 + 1) ≤ _; omega, by show (zs.set k y).length = _; rw [List.length_set]; exact hzl, hbz.set idC_len k y, by show SetOf (l.take (k0 + k2 + 1)) ((zs.set k y).take (k + 1)); rw [set_take y (by omega)]; exact hnx.2 (by simpa using hc4), fun j hj => by show (zs.set k y)[j]? = _; have hj' : k0 + (k2 + 1) - 1 ≤ j := hj; rw [List.getElem?_set_ne (by omega)]; exact hdr j (by omega)⟩ (by show l.length - (k2 + 1) < l.length - k2; omega) ⟨rfl, rfl, rfl, rfl, trivial⟩ (List.Sublist.refl _) | exact pn_again (k, k2 + 1, zs) ⟨hk3, by show k < k0 + (k2 + 1); omega, by show 1 ≤ k2 + 1; omega, by show k0 + (k2 + 1) ≤ _; omega, hzl, hbz, hnx.1 (by simpa using hc4), fun j hj => hdr j (by have hj' : k0 + (k2 + 1) - 1 ≤ j := hj; omega)⟩ (by show l.length - (k2 + 1) < l.length - k2; omega) ⟨rfl, rfl, rfl, rfl, trivial⟩ (List.Sublist.refl _))
          · refine pn_skip ?_
            refine pn_plain [] rfl ?_
            refine TE_q rfl rfl (RD.move rfl) rfl ?_
            refine TE_q rfl rfl (RD.addI rfl rfl (by omega) (by omega)) rfl ?_
            refine TE_q rfl rfl (RD.assign rfl) rfl ?_
            refine TE_nil0 ?_
            (first | exact pn_again (k + 1, k2 + 1, zs.set k y) ⟨by show k0 ≤ k + 1; omega, by show k + 1 < k0 + (k2 + 1); omega, by show 1 ≤ k2 + 1; omega, by show k0 + (k2 + 1) ≤ _; omega, by show (zs.set k y).length = _; rw [List.length_set]; exact hzl, hbz.set idC_len k y, by show SetOf (l.take (k0 + k2 + 1)) ((zs.set k y).take (k + 1)); rw [set_take y (by omega)]; exact hnx.2 (by simpa using hc4), fun j hj => by show (zs.set k y)[j]? = _; have hj' : k0 + (k2 + 1) - 1 ≤ j := hj; rw [List.getElem?_set_ne (by omega)]; exact hdr j (by omega)⟩ (by show l.length - (k2 + 1) < l.length - k2; omega) ⟨rfl, rfl, rfl, rfl, trivial⟩ (List.Sublist.refl _) | exact pn_again (k, k2 + 1, zs) ⟨hk3, by show k < k0 + (k2 + 1); omega, by show 1 ≤ k2 + 1; omega, by show k0 + (k2 + 1) ≤ _; omega, hzl, hbz, hnx.1 (by simpa using hc4), fun j hj => hdr j (by have hj' : k0 + (k2 + 1) - 1 ≤ j := hj; omega)⟩ (by show l.length - (k2 + 1) < l.length - k2; omega) ⟨rfl, rfl, rfl, rfl, trivial⟩ (List.Sublist.refl _))
        · refine pn_exit ?_
          refine pn_seq ?_
          refine pn_sp (bldMx 25 idC zs (some (b0, cap0, tl0)) ++ HC) (fun a => by simp -failIfUnchanged <;> omega) ?_
          refine pn_plain [] rfl ?_
          refine TE_q rfl rfl (RD.move rfl) rfl ?_
          refine TE_q rfl rfl (RD.move rfl) rfl ?_
          refine TE_q rfl rfl (RD.sliceX (l := k) (h := l.length) Try.runUnderlying26 Try.sizeOf25 rfl hRl ⟨_, rfl⟩ rfl (by omega) (Nat.le_refl _)) rfl ?_
          refine TE_clearX (n := k) (l := zs) HC idC_len rfl rfl rfl trivial Try.underlying26 Try.zeroValue25 rfl zeroI_one (by show some (subVx 32 k l.length (.slice (some ⟨b0, 0, none⟩) l.length cap0)) = _; rw [← hzl]; rfl) (by omega) hbz (.inr (by simp [keys, bldMx])) ?_
          intro tl' hbt
          refine TE_nil0 ?_
          refine pn_seq ?_
          refine pn_plain [] rfl ?_
          refine TE_q rfl rfl (RD.move rfl) rfl ?_
          refine TE_q rfl rfl (RD.move rfl) rfl ?_
          refine TE_q rfl rfl (RD.sliceX (l := 0) (h := k) Try.runUnderlying26 Try.sizeOf25 rfl hRl rfl ⟨_, rfl⟩ (Nat.zero_le _) (by omega)) rfl ?_
          refine TE_q rfl rfl (RD.assign rfl) rfl ?_
          refine TE_nil0 ?_
          refine pn_ret ?_
          exact pn_done rfl rfl ⟨zs.take k, some (b0, cap0, tl'), by rwa [List.take_of_length_le (by omega)] at hset2, hbt, subVx_pre (n := l.length) (by rw [List.length_take]; omega), rfl⟩ (List.sublist_append_left _ _) (fun e he => .inl (by simp only [bldMx, List.mem_cons, List.not_mem_nil, or_false] at he; subst he; simp [keys, bldMx]))
      · refine pn_skip ?_
        refine pn_plain [] rfl ?_
        refine TE_q rfl rfl (RD.move rfl) rfl ?_
        refine TE_q rfl rfl (RD.addI rfl rfl (by omega) (by omega)) rfl ?_
        refine TE_q rfl rfl (RD.assign rfl) rfl ?_
        refine TE_nil0 ?_
        (exact pn_again (k + 1) ⟨by omega, by omega, by have h9 := hnx.2 (by simpa using hc2); rwa [← take_succ_of hx] at h9⟩ (by show l.length - (k + 1) < l.length - k; omega) ⟨rfl, rfl, trivial⟩ (List.Sublist.refl _))
    · refine pn_exit ?_
      refine pn_seq ?_
      refine pn_plain [] rfl ?_
      refine TE_q rfl rfl (RD.move rfl) rfl ?_
      refine TE_q rfl rfl (RD.assign rfl) rfl ?_
      refine TE_nil0 ?_
      refine pn_ret ?_
      exact pn_done rfl rfl ⟨l, some (b0, cap0, tl0), setOf_take hset (by omega), hbo, rfl, rfl⟩ (List.sublist_append_left _ _) (fun e he => .inl (List.mem_map_of_mem he))

theorem c_hashSet (HX : Mem) (v : Value) (l : List (Nat → Int)) (w : World) (hb : Rdx 32 idC HX v l) (hcan : ∀ x ∈ l, IdCan x) (hok : ∀ x ∈ l, IdOk x) (hlen : l.length ≤ 1000000) (hH : Hp HX w) : Calls Try.prog 94 #[v] w (Ret w [] fun r H1 => ∃ xs st, SetOf l xs ∧ BldOk 32 idC xs st ∧ r = bldVx xs st ∧ H1 = bldMx 25 idC xs st) := by
  refine fn_enter (args := [_]) Try.func94 rfl Try.ntmps94 rfl hH ?_
  refine pn_seq ?_
  refine pn_plain [] rfl ?_
  refine TE_q rfl rfl (RD.assign rfl) rfl ?_
  refine TE_nil0 ?_
  refine pn_seq ?_
  refine pn_plain [] rfl ?_
  refine TE_q rfl rfl (RD.move rfl) rfl ?_
  refine TE_call rfl rfl trivial Try.call24 rfl rfl rfl (fun w hs' => c_cloneI HX _ l w (hs'.hp.sp (fun a => by simp -failIfUnchanged <;> omega)) hb hlen) ?_
  rintro v5 H1 ⟨st, hbo, rfl, rfl⟩ hX1
  refine TE_q rfl rfl (RD.assign rfl) rfl ?_
  refine TE_nil0 ?_
  refine pn_seq ?_
  refine pn_plain [] rfl ?_
  refine TE_q rfl rfl (RD.move rfl) rfl ?_
  refine TE_callR HX (bldMx 25 idC l st) (fun a => by simp -failIfUnchanged <;> omega) rfl rfl trivial Try.call96 rfl rfl rfl (fun e he => .inl (hX1 e he)) (fun w hs' => c_sortB IdOk _ zeroI_ok Try.sort96 Try.isAgg25 Try.sizeOf25 idC_len idC_one idCmp idCmp_irr idCmp_tr idCmp_nt 97 #[] Try.call97 [] (fun x y W hx hy hW => (c_hashCmp x y W hx hy).mono (by rintro e w' ⟨v, H1, rfl, ⟨rfl, rfl⟩, h1, h2, h3⟩; exact ⟨_, [], rfl, rfl, h1, h2, h3⟩)) _ l st hbo hok w (hs'.hp.sp (fun a => by simp -failIfUnchanged <;> omega)) (by omega)) ?_
  rintro v7 H1 ⟨rfl, xs, hperm, hsort, rfl, hveq, hbo'⟩ hX2
  refine TE_nil0 ?_
  refine pn_seq ?_
  refine pn_plain [] rfl ?_
  refine TE_q rfl rfl (RD.move rfl) rfl ?_
  refine TE_callR HX (bldMx 25 idC xs st) (fun a => by simp -failIfUnchanged <;> omega) rfl rfl trivial Try.call98 rfl rfl rfl hX2 (fun w hs' => by have h := c_compact [] xs st w hbo' (fun x hx => hcan x (hperm.mem_iff.1 hx)) hsort (by rw [hperm.length_eq]; exact hlen) (hs'.hp.sp (fun a => by simp -failIfUnchanged <;> omega)); rw [hveq] at h; exact h) ?_
  rintro v9 H1 ⟨ys, st', hset, hbo'', rfl, rfl⟩ hX3
  refine TE_q rfl rfl (RD.assign rfl) rfl ?_
  refine TE_nil0 ?_
  refine pn_ret ?_
  exact pn_doneS (bldMx 25 idC ys st') rfl rfl ⟨ys, st', hset.congr (fun x => hperm.mem_iff), hbo'', rfl, rfl⟩ (fun a => by simp -failIfUnchanged <;> omega) hX3

end Go.Proofs.Ytjdjlcmajeikcaa
