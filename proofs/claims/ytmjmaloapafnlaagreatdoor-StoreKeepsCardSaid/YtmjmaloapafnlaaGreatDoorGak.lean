import Derived.Test.YtmjmaloapafnlaaGreatDoorGaj
import Derived.Test.YtmjmaloapafnlaaGreatDoorSrt
import Derived.Test.YtmjmaloapafnlaaGreatDoorShq
import Derived.Test.YtmjmaloapafnlaaGreatDoorProg
namespace Go.Proofs.YtmjmaloapafnlaaGreatDoor
open Go.Proofs.Tryz
open Go Go.Mv
set_option maxRecDepth 8000
theorem c_cloneI (H : Mem) (xv : Value) (ys : List (Nat → Int)) (w : World) (hH : Hp H w) (hb : Rdx 32 idC H xv ys) (hlen : ys.length ≤ 1000000) : Calls Tryz.prog 104 #[xv] w (Ret w [] fun v H1 => ∃ st, BldOk 32 idC ys st ∧ v = bldVx ys st ∧ H1 = bldMx 36 idC ys st) := by
  rcases hb.part with ⟨rfl, rfl⟩ | ⟨ad, n, c, rfl⟩
  · refine fn_enter (args := [_]) func104 rfl ntmps104 rfl hH ?_
    refine pn_seq ?_
    refine pn_plain [] rfl ?_
    refine TE_q rfl rfl (RD.assign rfl) rfl ?_
    refine TE_nil0 ?_
    refine pn_seq ?_
    refine pn_seq ?_
    refine pn_plain [] rfl ?_
    refine TE_q rfl rfl (RD.move rfl) rfl ?_
    refine TE_q rfl rfl (RD.sl_eql_nil runUnderlying44 rfl rfl) rfl ?_
    refine TE_nil0 ?_
    refine pn_condT rfl ?_
    refine pn_seq ?_
    refine pn_plain [] rfl ?_
    refine TE_q rfl rfl (RD.assign rfl) rfl ?_
    refine TE_nil0 ?_
    refine pn_ret ?_
    exact pn_done (H1 := []) rfl rfl ⟨none, rfl, rfl, rfl⟩ (List.nil_sublist _) (by simp)
  · refine fn_enter (args := [_]) func104 rfl ntmps104 rfl hH ?_
    refine pn_seq ?_
    refine pn_plain [] rfl ?_
    refine TE_q rfl rfl (RD.assign rfl) rfl ?_
    refine TE_nil0 ?_
    refine pn_seq ?_
    refine pn_seq ?_
    refine pn_plain [] rfl ?_
    refine TE_q rfl rfl (RD.move rfl) rfl ?_
    refine TE_q rfl rfl (RD.sl_eql_nil runUnderlying44 rfl rfl) rfl ?_
    refine TE_nil0 ?_
    refine pn_condF rfl ?_
    refine pn_skip ?_
    refine pn_seq ?_
    refine pn_plain [] rfl ?_
    refine TE_buildSlice0 rfl runUnderlying44 sizeOf36 trivial rfl fun b5 hb5 => ?_
    refine TE_q rfl rfl (RD.move rfl) rfl ?_
    refine TE_appendX (st := some (b5, 0, [])) (l := []) H idC_len idC_one rfl rfl rfl rfl trivial rfl underlying44 elId rfl rfl rfl ⟨Nat.le_refl _, by decide, rfl⟩ hb (fun _ hw => hw.sp (fun a => by simp -failIfUnchanged <;> omega)) (by simp; omega) rfl (bldx_all (fun k => w.heap.size ≤ k ∨ k ∈ []) (by rintro b cap tl ⟨⟩; exact .inl hb5)) ?_
    intro st hok hX _
    refine TE_q rfl rfl (RD.assign rfl) rfl ?_
    refine TE_nil0 ?_
    refine pn_ret ?_
    exact pn_done rfl rfl ⟨st, hok, rfl, rfl⟩ (List.sublist_append_left _ _) (fun e he => (hX e he).symm)

theorem zeroI_one : ∀ v ∈ ((idV fun _ => 0).cells).toList, v.oneCell' = true := List.all_eq_true.1 rfl
theorem zeroI_ok : IdOk fun _ => 0 := fun _ => by show (0 : Int) ≤ 0 ∧ (0 : Int) ≤ 255; omega
theorem setOf_self {l : List (Nat → Int)} (h : l.length < 2) : SetOf l l := by
  match l, h with
  | [], _ => exact SetOf.nil
  | [x], _ => exact ⟨by simp, fun _ => Iff.rfl⟩
theorem setOf_take {l : List (Nat → Int)} {k : Nat} (h : SetOf (l.take k) (l.take k)) (hk : l.length ≤ k) : SetOf l l := by rwa [List.take_of_length_le hk] at h

set_option maxHeartbeats 1000000 in
theorem c_compact (HC : Mem) (l : List (Nat → Int)) (st : SnkS) (w : World) (hbo : BldOk 32 idC l st) (hcan : ∀ x ∈ l, IdCan x) (hsort : l.Pairwise fun x y => ¬ idCmp y x < 0) (hlen : l.length ≤ 1000000) (hH : Hp (bldMx 36 idC l st ++ HC) w) : Calls Tryz.prog 107 #[bldVx l st] w (Ret w (keys (bldMx 36 idC l st)) fun r H1 => ∃ xs st', SetOf l xs ∧ BldOk 32 idC xs st' ∧ r = bldVx xs st' ∧ H1 = bldMx 36 idC xs st') := by
 have hRl : Rdx 32 idC (bldMx 36 idC l st) (bldVx l st) l := hbo.rdx idC_len
 refine fn_enter (args := [_]) func107 rfl ntmps107 rfl hH (sq (pl (qa rfl (n0 (sq (sq (pn_plain [1] rfl (qm rfl (qq rfl (RD.lenX runUnderlying44 rfl hRl) ?_)))))))))
 refine qq rfl (RD.lss rfl rfl) (n0 ?_)
 first | refine pn_condD rfl (fun hc0 => ?_) (fun hc0 => ?_) | refine pn_condN rfl (fun hc0 => ?_) (fun hc0 => ?_) | refine pn_cond rfl (fun hc0 => ?_) (fun hc0 => ?_)
 ·exact sq (pl (qm rfl (qa rfl (n0 (rt (pn_done rfl rfl ⟨l, st, setOf_self (by omega), hbo, rfl, rfl⟩ (List.sublist_append_left _ _) (fun e he => .inl (List.mem_map_of_mem he))))))))
 ·refine sk (sq (sq ?_))
  have hq9 := hbo.some_of (fun h => hc0 (by rw [h]; decide)); obtain ⟨b0, cap0, tl0, rfl⟩ := hq9
  refine pl (qa rfl (n0 (pn_block (pn_loop (σ := Nat) (fun k => [(3, .int .i64 (k : Int)), (0, .slice (some ⟨b0, 0, none⟩) l.length cap0)]) (fun _ => bldMx 36 idC l (some (b0, cap0, tl0)) ++ HC) (fun k => 1 ≤ k ∧ k ≤ l.length ∧ SetOf (l.take k) (l.take k)) (fun k => l.length - k) 1 ⟨Nat.le_refl _, by omega, setOf_self (by rw [List.length_take]; omega)⟩ ⟨rfl, rfl, trivial⟩ (List.Sublist.refl _) ?_))))
  rintro k ⟨hk1, hk2, hset⟩
  refine sq (sq (pn_plain [2] rfl (qm rfl (qm rfl (qq rfl (RD.lenX runUnderlying44 rfl hRl) (qq rfl (RD.lss rfl rfl) (n0 ?_)))))))
  first | refine pn_condD rfl (fun hc1 => ?_) (fun hc1 => ?_) | refine pn_condN rfl (fun hc1 => ?_) (fun hc1 => ?_) | refine pn_cond rfl (fun hc1 => ?_) (fun hc1 => ?_)
  ·refine sk (sq (pn_block (sq ?_)))
   have hkl : k < l.length := (by omega); have hq9 : ∃ x, l[k]? = some x := ⟨_, List.getElem?_eq_getElem hkl⟩; obtain ⟨x, hx⟩ := hq9; have hq9 : ∃ p, l[k - 1]? = some p := ⟨_, List.getElem?_eq_getElem (by omega)⟩; obtain ⟨p, hp⟩ := hq9; have hcx := hbo.cell (u := 36) idC_len hx; have hcp := hbo.cell (u := 36) idC_len hp; have hnx := srt_next (m := k - 1) hsort hcan (by rw [show k - 1 + 1 = k from by omega]; exact hset) hp (by rw [show k - 1 + 1 = k from by omega]; exact hx); rw [show k - 1 + 1 = k from by omega] at hnx
   refine pn_drawT [3, 8] [] [] [] (bldMx 36 idC l (some (b0, cap0, tl0)) ++ HC) rfl rfl (by kernel_rfl) (by kernel_rfl) rfl rfl (qm rfl (qm rfl (qq rfl (RD.indexX (i := k) (len := l.length) (cap := cap0) (b := b0) (off := 0) runUnderlying44 sizeOf36 rfl rfl rfl hkl) (qq rfl (RD.as (v := idV x) (RD.loadX (vs := idC x) isAgg36 sizeOf36 rfl rfl (fun w hw j u hu => hcx w hw.s j u hu)) (idC_agg _)) (qm rfl (qm rfl (qq rfl (RD.subI rfl rfl (by omega) (by omega)) (qq rfl (RD.indexX (i := k - 1) (len := l.length) (cap := cap0) (b := b0) (off := 0) runUnderlying44 sizeOf36 rfl rfl (by omega) (by omega)) (qq rfl (RD.as (v := idV p) (RD.loadX (vs := idC p) isAgg36 sizeOf36 rfl rfl (fun w hw j u hu => hcp w hw.s j u hu)) (idC_agg _)) ?_)))))))))
   refine qq rfl (RD.eql_agg eqGuardType36 (eq_id x p) rfl rfl) (TE_nil ?_)
   first | refine pn_condD rfl (fun hc2 => ?_) (fun hc2 => ?_) | refine pn_condN rfl (fun hc2 => ?_) (fun hc2 => ?_) | refine pn_cond rfl (fun hc2 => ?_) (fun hc2 => ?_)
   ·refine sq (pl (qm rfl (qm rfl (qq rfl (RD.as (v := .slice (some ⟨b0, 0 + k * 32, none⟩) (l.length - k) (cap0 - k)) (RD.sliceX (l := k) (h := l.length) runUnderlying44 sizeOf36 rfl hRl ⟨_, rfl⟩ rfl (by omega) (Nat.le_refl _)) (by have hcl : l.length ≤ cap0 := hbo.1; show subVx 32 k l.length (.slice (some ⟨b0, 0, none⟩) l.length cap0) = _; simp only [subVx, ite_self]; rw [if_neg (by omega)])) (qa rfl (n0 (sq (sq (pl ?_)))))))))
    refine qa rfl (n0 (pn_block ?_))
    obtain ⟨k0, rfl⟩ : ∃ k0, k0 = k := ⟨k, rfl⟩; refine pn_loop (σ := Nat × Nat × List (Nat → Int)) (fun q => [(5, .int .i64 (q.2.1 : Int)), (3, .int .i64 (q.1 : Int)), (4, .slice (some ⟨b0, 0 + k0 * 32, none⟩) (l.length - k0) (cap0 - k0)), (0, .slice (some ⟨b0, 0, none⟩) l.length cap0)]) (fun q => bldMx 36 idC q.2.2 (some (b0, cap0, tl0)) ++ HC) (fun q => k0 ≤ q.1 ∧ q.1 < k0 + q.2.1 ∧ 1 ≤ q.2.1 ∧ k0 + q.2.1 ≤ l.length ∧ q.2.2.length = l.length ∧ BldOk 32 idC q.2.2 (some (b0, cap0, tl0)) ∧ SetOf (l.take (k0 + q.2.1)) (q.2.2.take q.1) ∧ ∀ j, k0 + q.2.1 - 1 ≤ j → q.2.2[j]? = l[j]?) (fun q => l.length - q.2.1) (k0, 1, l) ⟨Nat.le_refl _, Nat.lt_succ_self _, Nat.le_refl _, by show k0 + 1 ≤ l.length; omega, rfl, hbo, hnx.1 (by simpa using hc2), fun _ _ => rfl⟩ ⟨rfl, rfl, rfl, rfl, trivial⟩ (List.Sublist.refl _) ?_
    rintro ⟨k, k2, zs⟩ ⟨hk3, hk4, hk5, hk6, hzl, hbz, hset2, hdr⟩; dsimp only at hk3 hk4 hk5 hk6 hzl hset2 hdr ⊢; have hbz : BldOk 32 idC zs (some (b0, cap0, tl0)) := hbz
    refine sq (sq (pn_plain [2] rfl (qm rfl (qm rfl (qq rfl (RD.len_slice runUnderlying44 rfl) (qq rfl (RD.lss rfl rfl) (n0 ?_)))))))
    first | refine pn_condD rfl (fun hc3 => ?_) (fun hc3 => ?_) | refine pn_condN rfl (fun hc3 => ?_) (fun hc3 => ?_) | refine pn_cond rfl (fun hc3 => ?_) (fun hc3 => ?_)
    ·refine sk (sq (pn_block (sq ?_)))
     have hjl : k0 + k2 < l.length := (by omega); have hq9 : ∃ x, l[k0 + k2]? = some x := ⟨_, List.getElem?_eq_getElem hjl⟩; obtain ⟨y, hy⟩ := hq9; have hq9 : ∃ q, l[k0 + k2 - 1]? = some q := ⟨_, List.getElem?_eq_getElem (by omega)⟩; obtain ⟨q, hq⟩ := hq9; have hyz := hdr (k0 + k2) (by omega); have hqz := hdr (k0 + k2 - 1) (by omega); rw [hy] at hyz; rw [hq] at hqz; have hcy := hbz.cell (u := 36) idC_len hyz; have hcq := hbz.cell (u := 36) idC_len hqz; rw [show 0 + (k0 + k2) * 32 = 0 + k0 * 32 + k2 * 32 from by omega] at hcy; rw [show 0 + (k0 + k2 - 1) * 32 = 0 + k0 * 32 + (k2 - 1) * 32 from by omega] at hcq; have hnx := srt_next (m := k0 + k2 - 1) hsort hcan (by rw [show k0 + k2 - 1 + 1 = k0 + k2 from by omega]; exact hset2) hq (by rw [show k0 + k2 - 1 + 1 = k0 + k2 from by omega]; exact hy); rw [show k0 + k2 - 1 + 1 = k0 + k2 from by omega] at hnx
     refine pn_drawT [3, 8] [] [] [] (bldMx 36 idC zs (some (b0, cap0, tl0)) ++ HC) rfl rfl (by kernel_rfl) (by kernel_rfl) rfl rfl (qm rfl (qm rfl (qq rfl (RD.indexX (i := k2) (len := l.length - k0) (cap := cap0 - k0) (b := b0) (off := 0 + k0 * 32) runUnderlying44 sizeOf36 rfl rfl rfl (by omega)) (qq rfl (RD.as (v := idV y) (RD.loadX (vs := idC y) isAgg36 sizeOf36 rfl rfl (fun w hw j u hu => hcy w hw.s j u hu)) (idC_agg _)) (qm rfl (qm rfl (qq rfl (RD.subI rfl rfl (by omega) (by omega)) (qq rfl (RD.indexX (i := k2 - 1) (len := l.length - k0) (cap := cap0 - k0) (b := b0) (off := 0 + k0 * 32) runUnderlying44 sizeOf36 rfl rfl (by omega) (by omega)) (qq rfl (RD.as (v := idV q) (RD.loadX (vs := idC q) isAgg36 sizeOf36 rfl rfl (fun w hw j u hu => hcq w hw.s j u hu)) (idC_agg _)) ?_)))))))))
     refine qq rfl (RD.neq_agg eqGuardType36 (eq_id y q) rfl rfl) (TE_nil ?_)
     first | refine pn_condD rfl (fun hc4 => ?_) (fun hc4 => ?_) | refine pn_condN rfl (fun hc4 => ?_) (fun hc4 => ?_) | refine pn_cond rfl (fun hc4 => ?_) (fun hc4 => ?_)
     ·refine sq (psp (bldMx 36 idC zs (some (b0, cap0, tl0)) ++ HC) (pl (qm rfl (qm rfl (qm rfl (qm rfl (qq rfl (RD.indexX (i := k2) (len := l.length - k0) (cap := cap0 - k0) (b := b0) (off := 0 + k0 * 32) runUnderlying44 sizeOf36 rfl rfl rfl (by omega)) (ql rfl (RD.as (v := idV y) (RD.loadX (vs := idC y) isAgg36 sizeOf36 rfl rfl (fun w hw j u hu => hcy w hw.s j u hu)) (idC_agg _)) (qq rfl (RD.indexX (i := k) (len := l.length) (cap := cap0) (b := b0) (off := 0) runUnderlying44 sizeOf36 rfl rfl rfl (by omega)) ?_)))))))))
      refine TE_setE (i := k) (z := y) HC idC_len idC_one rfl rfl sizeOf36 trivial rfl rfl rfl (by omega) (by omega) (.inr (by simp [keys, bldMx])) (n0 (pl (qm rfl (qq rfl (RD.addI rfl rfl (by omega) (by omega)) (qa rfl (n0 (pl (qm rfl (qq rfl (RD.addI rfl rfl (by omega) (by omega)) ?_)))))))))
      refine qa rfl (n0 ?_)
      (first | exact pn_again (k + 1, k2 + 1, zs.set k y) ⟨by show k0 ≤ k + 1; omega, by show k + 1 < k0 + (k2 + 1); omega, by show 1 ≤ k2 + 1; omega, by show k0 + (k2 + 1) ≤ _; omega, by show (zs.set k y).length = _; rw [List.length_set]; exact hzl, hbz.set idC_len k y, by show SetOf (l.take (k0 + k2 + 1)) ((zs.set k y).take (k + 1)); rw [set_take y (by omega)]; exact hnx.2 (by simpa using hc4), fun j hj => by show (zs.set k y)[j]? = _; have hj' : k0 + (k2 + 1) - 1 ≤ j := hj; rw [List.getElem?_set_ne (by omega)]; exact hdr j (by omega)⟩ (by show l.length - (k2 + 1) < l.length - k2; omega) ⟨rfl, rfl, rfl, rfl, trivial⟩ (List.Sublist.refl _) | exact pn_again (k, k2 + 1, zs) ⟨hk3, by show k < k0 + (k2 + 1); omega, by show 1 ≤ k2 + 1; omega, by show k0 + (k2 + 1) ≤ _; omega, hzl, hbz, hnx.1 (by simpa using hc4), fun j hj => hdr j (by have hj' : k0 + (k2 + 1) - 1 ≤ j := hj; omega)⟩ (by show l.length - (k2 + 1) < l.length - k2; omega) ⟨rfl, rfl, rfl, rfl, trivial⟩ (List.Sublist.refl _))
     ·refine sk (pl (qm rfl (qq rfl (RD.addI rfl rfl (by omega) (by omega)) (qa rfl (n0 ?_)))))
      (first | exact pn_again (k + 1, k2 + 1, zs.set k y) ⟨by show k0 ≤ k + 1; omega, by show k + 1 < k0 + (k2 + 1); omega, by show 1 ≤ k2 + 1; omega, by show k0 + (k2 + 1) ≤ _; omega, by show (zs.set k y).length = _; rw [List.length_set]; exact hzl, hbz.set idC_len k y, by show SetOf (l.take (k0 + k2 + 1)) ((zs.set k y).take (k + 1)); rw [set_take y (by omega)]; exact hnx.2 (by simpa using hc4), fun j hj => by show (zs.set k y)[j]? = _; have hj' : k0 + (k2 + 1) - 1 ≤ j := hj; rw [List.getElem?_set_ne (by omega)]; exact hdr j (by omega)⟩ (by show l.length - (k2 + 1) < l.length - k2; omega) ⟨rfl, rfl, rfl, rfl, trivial⟩ (List.Sublist.refl _) | exact pn_again (k, k2 + 1, zs) ⟨hk3, by show k < k0 + (k2 + 1); omega, by show 1 ≤ k2 + 1; omega, by show k0 + (k2 + 1) ≤ _; omega, hzl, hbz, hnx.1 (by simpa using hc4), fun j hj => hdr j (by have hj' : k0 + (k2 + 1) - 1 ≤ j := hj; omega)⟩ (by show l.length - (k2 + 1) < l.length - k2; omega) ⟨rfl, rfl, rfl, rfl, trivial⟩ (List.Sublist.refl _))
    ·refine xt (sq (psp (bldMx 36 idC zs (some (b0, cap0, tl0)) ++ HC) (pl (qm rfl (qm rfl (qq rfl (RD.sliceX (l := k) (h := l.length) runUnderlying44 sizeOf36 rfl hRl ⟨_, rfl⟩ rfl (by omega) (Nat.le_refl _)) (TE_clearX (n := k) (l := zs) HC idC_len rfl rfl rfl trivial underlying44 zeroValue36 rfl zeroI_one (by show some (subVx 32 k l.length (.slice (some ⟨b0, 0, none⟩) l.length cap0)) = _; rw [← hzl]; rfl) (by omega) hbz (.inr (by simp [keys, bldMx])) ?_)))))))
     intro tl' hbt
     exact n0 (sq (pl (qm rfl (qm rfl (qq rfl (RD.sliceX (l := 0) (h := k) runUnderlying44 sizeOf36 rfl hRl rfl ⟨_, rfl⟩ (Nat.zero_le _) (by omega)) (qa rfl (n0 (rt (pn_done rfl rfl ⟨zs.take k, some (b0, cap0, tl'), by rwa [List.take_of_length_le (by omega)] at hset2, hbt, subVx_pre (n := l.length) (by rw [List.length_take]; omega), rfl⟩ (List.sublist_append_left _ _) (fun e he => .inl (by simp only [bldMx, List.mem_cons, List.not_mem_nil, or_false] at he; subst he; simp [keys, bldMx])))))))))))
   ·refine sk (pl (qm rfl (qq rfl (RD.addI rfl rfl (by omega) (by omega)) (qa rfl (n0 ?_)))))
    (exact pn_again (k + 1) ⟨by omega, by omega, by have h9 := hnx.2 (by simpa using hc2); rwa [← take_succ_of hx] at h9⟩ (by show l.length - (k + 1) < l.length - k; omega) ⟨rfl, rfl, trivial⟩ (List.Sublist.refl _))
  ·exact xt (sq (pl (qm rfl (qa rfl (n0 (rt (pn_done rfl rfl ⟨l, some (b0, cap0, tl0), setOf_take hset (by omega), hbo, rfl, rfl⟩ (List.sublist_append_left _ _) (fun e he => .inl (List.mem_map_of_mem he)))))))))
theorem c_hashSet (HX : Mem) (v : Value) (l : List (Nat → Int)) (w : World) (hb : Rdx 32 idC HX v l) (hcan : ∀ x ∈ l, IdCan x) (hok : ∀ x ∈ l, IdOk x) (hlen : l.length ≤ 1000000) (hH : Hp HX w) : Calls Tryz.prog 46 #[v] w (Ret w [] fun r H1 => ∃ xs st, SetOf l xs ∧ BldOk 32 idC xs st ∧ r = bldVx xs st ∧ H1 = bldMx 36 idC xs st) := by
 refine fn_enter (args := [_]) func46 rfl ntmps46 rfl hH (sq (pl (qa rfl (n0 (sq (pl (qm rfl (TE_call rfl rfl trivial call104 rfl rfl rfl (fun w hs' => c_cloneI HX _ l w (hs'.hp.sp (fun a => by simp -failIfUnchanged <;> omega)) hb hlen) ?_))))))))
 rintro v5 H1 ⟨st, hbo, rfl, rfl⟩ hX1
 refine qa rfl (n0 (sq (pl (qm rfl (TE_callR HX (bldMx 36 idC l st) (fun a => by simp -failIfUnchanged <;> omega) rfl rfl trivial call105 rfl rfl rfl (fun e he => .inl (hX1 e he)) (fun w hs' => c_sortB IdOk _ zeroI_ok Tryz.sort105 isAgg36 sizeOf36 idC_len idC_one idCmp idCmp_irr idCmp_tr idCmp_nt 106 #[] call106 [] (fun x y W hx hy hW => (c_hashCmp x y W hx hy).mono (by rintro e w' ⟨v, H1, rfl, ⟨rfl, rfl⟩, h1, h2, h3⟩; exact ⟨_, [], rfl, rfl, h1, h2, h3⟩)) _ l st hbo hok w (hs'.hp.sp (fun a => by simp -failIfUnchanged <;> omega)) (by omega)) ?_)))))
 rintro v7 H1 ⟨rfl, xs, hperm, hsort, rfl, hveq, hbo'⟩ hX2
 refine n0 (sq (pl (qm rfl (TE_callR HX (bldMx 36 idC xs st) (fun a => by simp -failIfUnchanged <;> omega) rfl rfl trivial call107 rfl rfl rfl hX2 (fun w hs' => by have h := c_compact [] xs st w hbo' (fun x hx => hcan x (hperm.mem_iff.1 hx)) hsort (by rw [hperm.length_eq]; exact hlen) (hs'.hp.sp (fun a => by simp -failIfUnchanged <;> omega)); rw [hveq] at h; exact h) ?_))))
 rintro v9 H1 ⟨ys, st', hset, hbo'', rfl, rfl⟩ hX3
 exact qa rfl (n0 (rt (dS (bldMx 36 idC ys st') rfl rfl ⟨ys, st', hset.congr (fun x => hperm.mem_iff), hbo'', rfl, rfl⟩ hX3)))
end Go.Proofs.YtmjmaloapafnlaaGreatDoor

namespace Go.Proofs.YtmjmaloapafnlaaGreatDoor
open Go Go.Mv
set_option maxRecDepth 8000
instance : Inhabited Rec := ⟨⟨0, 0, fun _ => 0, ⟨#[]⟩, false, fun _ => 0⟩⟩
theorem bd_id0 (w : World) : (Instr.build 36 #[]).run Tryz.prog w = .ok (idV fun _ => 0) w := by
  simp [Instr.build, Tryz.zeroValue36, Tryz.runUnderlying36, Tryz.sizeOf5, Value.cells, Instr.fill, idV]
end Go.Proofs.YtmjmaloapafnlaaGreatDoor

namespace Go.Proofs.YtmjmaloapafnlaaGreatDoor
open Go Go.Mv
set_option maxRecDepth 8000
structure Lnk where
  k : Int
  id : Nat → Int
def lnkV (x : Lnk) : Value := .agg #[.int .i64 x.k, .int .u8 (x.id 0), .int .u8 (x.id 1), .int .u8 (x.id 2), .int .u8 (x.id 3), .int .u8 (x.id 4), .int .u8 (x.id 5), .int .u8 (x.id 6), .int .u8 (x.id 7), .int .u8 (x.id 8), .int .u8 (x.id 9), .int .u8 (x.id 10), .int .u8 (x.id 11), .int .u8 (x.id 12), .int .u8 (x.id 13), .int .u8 (x.id 14), .int .u8 (x.id 15), .int .u8 (x.id 16), .int .u8 (x.id 17), .int .u8 (x.id 18), .int .u8 (x.id 19), .int .u8 (x.id 20), .int .u8 (x.id 21), .int .u8 (x.id 22), .int .u8 (x.id 23), .int .u8 (x.id 24), .int .u8 (x.id 25), .int .u8 (x.id 26), .int .u8 (x.id 27), .int .u8 (x.id 28), .int .u8 (x.id 29), .int .u8 (x.id 30), .int .u8 (x.id 31)]
instance : Inhabited Lnk := ⟨⟨0, (fun _ => 0)⟩⟩
def same_lnk (x y : Lnk) : Bool := (decide (x.k = y.k) && (sameN 32 x.id y.id && true))
theorem eqd_lnk (d : Nat) (x y : Lnk) (w : World) : (Op.equalIn (d + 4) 46 (.agg (lnkV x).cells) (.agg (lnkV y).cells)).run Tryz.prog w = .ok (same_lnk x y) w := by
  refine eqF_of (d := d + 3) Tryz.underlying46 Tryz.stoodInHeld46 ?_
  refine eqF_cons (a := .int .i64 x.k) (b := .int .i64 y.k) (r := decide (x.k = y.k)) rfl (by simp [part, Tryz.isAgg3, lnkV, Value.cells]) (by simp [part, Tryz.isAgg3, lnkV, Value.cells]) (by rw [run_equalIn_int w (d + 2) _ .i64 .i64 _ _ Tryz.underlying3]; rfl) ?_
  refine eqF_cons (a := idV x.id) (b := idV y.id) rfl (by simp [part, Tryz.isAgg36, Tryz.sizeOf36, lnkV, idV, Value.cells]) (by simp [part, Tryz.isAgg36, Tryz.sizeOf36, lnkV, idV, Value.cells]) (eqIn_ints (d := d + 1) (k := .u8) (n := 32) Tryz.underlying36 info_u8 Tryz.underlying5 Tryz.isAgg5 cells_u8 (fun i hi => ⟨id_at _ hi, id_at _ hi⟩) w) eqF_nil
theorem eq_lnk (x y : Lnk) (w : World) : (Op.equalIn 10000 46 (.agg (lnkV x).cells) (.agg (lnkV y).cells)).run Tryz.prog w = .ok (same_lnk x y) w := eqd_lnk 9996 x y w
structure Ent where
  name : ByteArray
  k : Int
  id : Nat → Int
def entV (x : Ent) : Value := .agg #[.string x.name, .int .i64 x.k, .int .u8 (x.id 0), .int .u8 (x.id 1), .int .u8 (x.id 2), .int .u8 (x.id 3), .int .u8 (x.id 4), .int .u8 (x.id 5), .int .u8 (x.id 6), .int .u8 (x.id 7), .int .u8 (x.id 8), .int .u8 (x.id 9), .int .u8 (x.id 10), .int .u8 (x.id 11), .int .u8 (x.id 12), .int .u8 (x.id 13), .int .u8 (x.id 14), .int .u8 (x.id 15), .int .u8 (x.id 16), .int .u8 (x.id 17), .int .u8 (x.id 18), .int .u8 (x.id 19), .int .u8 (x.id 20), .int .u8 (x.id 21), .int .u8 (x.id 22), .int .u8 (x.id 23), .int .u8 (x.id 24), .int .u8 (x.id 25), .int .u8 (x.id 26), .int .u8 (x.id 27), .int .u8 (x.id 28), .int .u8 (x.id 29), .int .u8 (x.id 30), .int .u8 (x.id 31)]
instance : Inhabited Ent := ⟨⟨⟨#[]⟩, 0, (fun _ => 0)⟩⟩
theorem ent_all (x : Ent) : Value.agg ((entV x).cells.extract 0 (0 + 34)) = entV x := by kernel_rfl
def entC (x : Ent) : List Value := (entV x).cells.toList
theorem entC_len (x : Ent) : (entC x).length = 34 := rfl
theorem entC_one (x : Ent) : ∀ v ∈ entC x, v.oneCell' = true := List.all_eq_true.1 (show (entC x).all (fun v => v.oneCell') = true from rfl)
theorem entC_agg (x : Ent) : Value.agg (entC x).toArray = entV x := rfl
theorem el_ent : ElI Tryz.prog 113 34 56 (entV default) := by unfold ElI; kernel_rfl
def same_ent (x y : Ent) : Bool := (decide (x.name = y.name) && (decide (x.k = y.k) && (sameN 32 x.id y.id && true)))
theorem eqd_ent (d : Nat) (x y : Ent) (w : World) : (Op.equalIn (d + 4) 113 (.agg (entV x).cells) (.agg (entV y).cells)).run Tryz.prog w = .ok (same_ent x y) w := by
  refine eqF_of (d := d + 3) Tryz.underlying113 Tryz.stoodInHeld113 ?_
  refine eqF_cons (a := .string x.name) (b := .string y.name) rfl (by simp [part, Tryz.isAgg9, entV, Value.cells]) (by simp [part, Tryz.isAgg9, entV, Value.cells]) (eqIn_string Tryz.underlying9) ?_
  refine eqF_cons (a := .int .i64 x.k) (b := .int .i64 y.k) (r := decide (x.k = y.k)) rfl (by simp [part, Tryz.isAgg3, entV, Value.cells]) (by simp [part, Tryz.isAgg3, entV, Value.cells]) (by rw [run_equalIn_int w (d + 2) _ .i64 .i64 _ _ Tryz.underlying3]; rfl) ?_
  refine eqF_cons (a := idV x.id) (b := idV y.id) rfl (by simp [part, Tryz.isAgg36, Tryz.sizeOf36, entV, idV, Value.cells]) (by simp [part, Tryz.isAgg36, Tryz.sizeOf36, entV, idV, Value.cells]) (eqIn_ints (d := d + 1) (k := .u8) (n := 32) Tryz.underlying36 info_u8 Tryz.underlying5 Tryz.isAgg5 cells_u8 (fun i hi => ⟨id_at _ hi, id_at _ hi⟩) w) eqF_nil
theorem eq_ent (x y : Ent) (w : World) : (Op.equalIn 10000 113 (.agg (entV x).cells) (.agg (entV y).cells)).run Tryz.prog w = .ok (same_ent x y) w := eqd_ent 9996 x y w
structure Ob where
  k : Int
  data : List UInt8
  ents : List Ent
  t : Nat → Int
  pars : List (Nat → Int)
  tg : Lnk
  m : ByteArray
def objV (x : Ob) (v_data v_ents v_pars : Value) : Value := .agg #[.int .i64 x.k, v_data, v_ents, .int .u8 (x.t 0), .int .u8 (x.t 1), .int .u8 (x.t 2), .int .u8 (x.t 3), .int .u8 (x.t 4), .int .u8 (x.t 5), .int .u8 (x.t 6), .int .u8 (x.t 7), .int .u8 (x.t 8), .int .u8 (x.t 9), .int .u8 (x.t 10), .int .u8 (x.t 11), .int .u8 (x.t 12), .int .u8 (x.t 13), .int .u8 (x.t 14), .int .u8 (x.t 15), .int .u8 (x.t 16), .int .u8 (x.t 17), .int .u8 (x.t 18), .int .u8 (x.t 19), .int .u8 (x.t 20), .int .u8 (x.t 21), .int .u8 (x.t 22), .int .u8 (x.t 23), .int .u8 (x.t 24), .int .u8 (x.t 25), .int .u8 (x.t 26), .int .u8 (x.t 27), .int .u8 (x.t 28), .int .u8 (x.t 29), .int .u8 (x.t 30), .int .u8 (x.t 31), v_pars, .int .i64 x.tg.k, .int .u8 (x.tg.id 0), .int .u8 (x.tg.id 1), .int .u8 (x.tg.id 2), .int .u8 (x.tg.id 3), .int .u8 (x.tg.id 4), .int .u8 (x.tg.id 5), .int .u8 (x.tg.id 6), .int .u8 (x.tg.id 7), .int .u8 (x.tg.id 8), .int .u8 (x.tg.id 9), .int .u8 (x.tg.id 10), .int .u8 (x.tg.id 11), .int .u8 (x.tg.id 12), .int .u8 (x.tg.id 13), .int .u8 (x.tg.id 14), .int .u8 (x.tg.id 15), .int .u8 (x.tg.id 16), .int .u8 (x.tg.id 17), .int .u8 (x.tg.id 18), .int .u8 (x.tg.id 19), .int .u8 (x.tg.id 20), .int .u8 (x.tg.id 21), .int .u8 (x.tg.id 22), .int .u8 (x.tg.id 23), .int .u8 (x.tg.id 24), .int .u8 (x.tg.id 25), .int .u8 (x.tg.id 26), .int .u8 (x.tg.id 27), .int .u8 (x.tg.id 28), .int .u8 (x.tg.id 29), .int .u8 (x.tg.id 30), .int .u8 (x.tg.id 31), .string x.m]
instance : Inhabited Ob := ⟨⟨0, [], [], (fun _ => 0), [], (⟨0, (fun _ => 0)⟩ : Lnk), ⟨#[]⟩⟩⟩
theorem obj_all (x : Ob) (v_data v_ents v_pars : Value) : Value.agg ((objV x v_data v_ents v_pars).cells.extract 0 (0 + 70)) = objV x v_data v_ents v_pars := by kernel_rfl
theorem objV_one (x : Ob) (v_data v_ents v_pars : Value) (h_data : v_data.oneCell' = true) (h_ents : v_ents.oneCell' = true) (h_pars : v_pars.oneCell' = true) : ((objV x v_data v_ents v_pars).cells.toList.all fun u => u.oneCell') = true := by
  have h9 : ∀ u ∈ (objV x v_data v_ents v_pars).cells.toList, u.oneCell' = true := by
    intro u hu
    simp only [objV, Value.cells, List.mem_cons, List.not_mem_nil, or_false] at hu
    rcases hu with rfl | rfl | rfl | rfl | rfl | rfl | rfl | rfl | rfl | rfl | rfl | rfl | rfl | rfl | rfl | rfl | rfl | rfl | rfl | rfl | rfl | rfl | rfl | rfl | rfl | rfl | rfl | rfl | rfl | rfl | rfl | rfl | rfl | rfl | rfl | rfl | rfl | rfl | rfl | rfl | rfl | rfl | rfl | rfl | rfl | rfl | rfl | rfl | rfl | rfl | rfl | rfl | rfl | rfl | rfl | rfl | rfl | rfl | rfl | rfl | rfl | rfl | rfl | rfl | rfl | rfl | rfl | rfl | rfl | rfl <;> first | rfl | assumption
  exact List.all_eq_true.2 h9
theorem put_obj_data (x : Ob) (v_data v_ents v_pars : Value) (v : Value) (y : List UInt8) : (objV x v_data v_ents v_pars).cells.setIfInBounds 1 v = (objV { x with data := y } v v_ents v_pars).cells := by kernel_rfl
theorem put_obj_ents (x : Ob) (v_data v_ents v_pars : Value) (v : Value) (y : List Ent) : (objV x v_data v_ents v_pars).cells.setIfInBounds 2 v = (objV { x with ents := y } v_data v v_pars).cells := by kernel_rfl
theorem obj_t (x : Ob) (v_data v_ents v_pars : Value) : Value.agg ((objV x v_data v_ents v_pars).cells.extract 3 (3 + 32)) = idV x.t := by kernel_rfl
theorem put_obj_t (x : Ob) (v_data v_ents v_pars : Value) (y : Nat → Int) : putL (objV x v_data v_ents v_pars).cells 3 (idV y).cells.toList = (objV { x with t := y } v_data v_ents v_pars).cells := by kernel_rfl
theorem put_obj_pars (x : Ob) (v_data v_ents v_pars : Value) (v : Value) (y : List (Nat → Int)) : (objV x v_data v_ents v_pars).cells.setIfInBounds 35 v = (objV { x with pars := y } v_data v_ents v).cells := by kernel_rfl
theorem obj_tg (x : Ob) (v_data v_ents v_pars : Value) : Value.agg ((objV x v_data v_ents v_pars).cells.extract 36 (36 + 33)) = lnkV x.tg := by kernel_rfl
theorem put_obj_tg_k (x : Ob) (v_data v_ents v_pars : Value) (y : Int) : (objV x v_data v_ents v_pars).cells.setIfInBounds 36 (.int .i64 y) = (objV { x with tg := { x.tg with k := y } } v_data v_ents v_pars).cells := by kernel_rfl
theorem put_obj_tg_id (x : Ob) (v_data v_ents v_pars : Value) (y : Nat → Int) : putL (objV x v_data v_ents v_pars).cells 37 (idV y).cells.toList = (objV { x with tg := { x.tg with id := y } } v_data v_ents v_pars).cells := by kernel_rfl
theorem put_obj_m (x : Ob) (v_data v_ents v_pars : Value) (y : ByteArray) : (objV x v_data v_ents v_pars).cells.setIfInBounds 69 (.string y) = (objV { x with m := y } v_data v_ents v_pars).cells := by kernel_rfl

end Go.Proofs.YtmjmaloapafnlaaGreatDoor

namespace Go.Proofs.YtmjmaloapafnlaaGreatDoor
open Go.Proofs.Tryz
open Go Go.Mv
set_option maxRecDepth 8000
theorem sep_dec : ∀ pos, pos < 2 → (Utf8.decode ⟨#[47, 0]⟩ pos).1 ≠ 65533 := by decide

theorem sep_idx (c : UInt8) : Lib.indexByte ((⟨#[47, 0]⟩ : ByteArray).extract 2 (⟨#[47, 0]⟩ : ByteArray).size).data.toList c = -1 := rfl

theorem c_runeBig (r : Int) (w : World) (hr : 128 ≤ r) (hH : Hp [] w) : Calls Tryz.prog 238 #[.string ⟨#[47, 0]⟩, .int .i32 r] w (Ret w [] fun v H1 => v = .int .i64 (-1) ∧ H1 = []) := by
 have ⟨henc, henc4, henc2⟩ := enc_big hr
 refine fn_enter (args := [_, _]) func238 rfl ntmps238 rfl hH (sq (pl (qa rfl (n0 (pn_block (sq (pl (qm rfl (qq rfl (RD.leq rfl rfl) ?_)))))))))
 refine qm rfl (TE_join (σ := Unit) (fun _ => [(0, .string ⟨#[47, 0]⟩), (1, .int .i32 r), (160, .bool ((decide (0 ≤ r)) && (decide (r < 128))))]) (fun _ => []) (fun _ => True) ?_ ?_)
 ·refine TE_dec (fun hf1 => ?_) (fun hf1 => ?_)
  ·exact qg rfl (TE_gq rfl rfl rfl rfl (RD.lss rfl rfl) rfl (qT rfl (qa rfl (n0 (pn_give () trivial ⟨rfl, rfl, congrArg (fun b => some (Value.bool b)) (by first | (simp [hf1]; done) | (simp only [decide_eq_true hf1]; rfl) | (simp only [decide_eq_true hf1]; simp; done)), trivial⟩ sb)))))
  ·exact qs rfl (qs rfl (qF rfl (qa rfl (n0 (pn_give () trivial ⟨rfl, rfl, congrArg (fun b => some (Value.bool b)) (by first | (simp [hf1]; done) | (simp only [decide_eq_false hf1]; rfl) | (simp only [decide_eq_false hf1]; simp; done)), trivial⟩ sb)))))
 rintro _ -
 refine pn_cond rfl (fun hc2 => ?_) (fun hc2 => ?_)
 ·exfalso
  simp only [Bool.and_eq_true, decide_eq_true_eq] at hc2; omega
 ·simp only [Bool.and_eq_false_iff, decide_eq_false_iff_not] at hc2
  refine sq (pl (qm rfl (qq rfl (RD.eql rfl rfl) (qa rfl (n0 (pn_condD rfl (fun hc3 => ?_) (fun hc3 => ?_)))))))
  ·refine sq (sq (pl (qm rfl (TE_rangeS rfl runUnderlying9 rfl trivial rfl fun b175 hb175 => (n0 (pn_block (lpS (σ := Nat) (fun q => [(175, .pointer (some ⟨b175, 0, none⟩))]) (fun q => [(b175, .stringIter ⟨#[47, 0]⟩ q)]) (fun q => True) (fun q => 2 - q) 0 trivial ⟨rfl, trivial⟩ ?_)))))))
   rintro pos -
   refine sq (pl ?_)
   refine (if hn4 : pos < (⟨#[47, 0]⟩ : ByteArray).size then ?_ else ?_)
   ·have ⟨hw5, hw6⟩ := decode_step hn4; refine TE_nextS (i := 0) rfl rfl trivial rfl rfl hn4 (.inl hb175) ?_
    refine qe rfl (n0 (sq (pn_condT rfl (sk (pn_block (sq (pl (qe rfl (qe rfl ?_)))))))))
    refine qa rfl (qa rfl (n0 (sq (pl (qm rfl (qq rfl (RD.eql rfl rfl) (n0 (pn_condD rfl (fun hc7 => ?_) (fun hc7 => ?_)))))))))
    ·exfalso
     have := sep_dec pos (by assumption); omega
    ·exact sk (agS (pos + (Utf8.decode (⟨#[47, 0]⟩ : ByteArray) pos).2) trivial (by have h9 : (⟨#[47, 0]⟩ : ByteArray).size = 2 := rfl; omega) ⟨rfl, trivial⟩)
   ·refine TE_nextE (i := 0) rfl rfl trivial rfl rfl hn4 (qe rfl (n0 (sq (pn_condF rfl (xt (sq (plG [] [] (qa rfl (n0 ?_)))))))))
    exact rt (pn_doneS [] rfl rfl ⟨rfl, rfl⟩ (fun _ => Nat.zero_le _) (fun _ he => nomatch he))
  ·refine sq (pl (qm rfl (cG rfl call243 (fun w hw => Ret.same (Tryz.utf8_ValidRune r w)) ?_)))
   rintro v8 H9 ⟨rfl, rfl⟩ -
   refine qq rfl (RD.not rfl) (qa rfl (n0 (pn_cond rfl (fun hc10 => ?_) (fun hc10 => ?_))))
   ·simp only [Bool.not_eq_true'] at hc10
    exact sq (pl (qa rfl (n0 (rt (pn_doneS [] rfl rfl ⟨rfl, rfl⟩ (fun _ => Nat.zero_le _) (fun _ he => nomatch he))))))
   ·simp only [Bool.not_eq_false'] at hc10
    refine pn_scope (sq (pl (qm rfl (ql rfl (RD.str_of_rune runUnderlying21 runUnderlying9 rfl) (qa rfl (n0 (sq (pn_plain [1] rfl (qm rfl ?_)))))))))
    refine qq rfl (RD.len_string runUnderlying9 rfl) (qq rfl (RD.subI rfl rfl (by omega) (by omega)) (qa rfl (n0 (sq (pl (qm rfl (qa rfl (n0 (sq ?_)))))))))
    refine pl (qa rfl (n0 (sq (pn_block (lpS (σ := Unit) (fun q => [(0, .string ⟨#[47, 0]⟩), (7, .string (Utf8.encode r)), (8, .int .i64 (((Utf8.encode r).size : Int) - 1)), (9, .int .i64 (((Utf8.encode r).size : Int) - 1)), (10, .int .i64 0)]) (fun q => []) (fun q => True) (fun q => 0) () trivial ⟨rfl, rfl, rfl, rfl, rfl, trivial⟩ ?_)))))
    rintro _ -
    refine sq (sq (pn_plain [2] rfl (qm rfl (qm rfl (qq rfl (RD.as (v := .int .i64 2) (RD.len_string runUnderlying9 rfl) rfl) (qq rfl (RD.lss rfl rfl) (n0 (pn_condD rfl (fun hc11 => ?_) (fun hc11 => ?_)))))))))
    ·refine sk (pn_block (pn_scope (sq (sq (dG [] [] [] (qm rfl (qm rfl (qq rfl (RD.indexStr (i := 1) underlying9 rfl rfl (by omega) (gt_some (lt_data (by first | omega | exact Nat.le_of_ble_eq_true rfl)))) (qm rfl ?_)))))))))
     refine qm rfl (qq rfl (RD.indexStr (i := 1) underlying9 rfl rfl (by omega) (gt_some (lt_data (by first | omega | exact Nat.le_of_ble_eq_true rfl)))) (qq rfl (RD.neq rfl rfl) (TE_nil (pn_condN rfl (fun hc12 => ?_) (fun hc12 => ?_)))))
     ·refine sq (dG [] [] [] (qm rfl (qm rfl (qq rfl (RD.addI rfl rfl (by omega) (by omega)) (qq rfl (RD.sliceStr (l := 2) (h := (⟨#[47, 0]⟩ : ByteArray).size) underlying9 rfl ⟨_, congrArg (fun z => some (Value.int .i64 z)) (show ((Utf8.encode r).size : Int) - 1 + 1 = ((2 : Nat) : Int) by omega)⟩ rfl (Nat.le_refl _) (Nat.le_refl _)) (qm rfl (qm rfl (qq rfl (RD.indexStr (i := 1) underlying9 rfl rfl (by omega) (gt_some (lt_data (by first | omega | exact Nat.le_of_ble_eq_true rfl)))) (cG rfl call242 (fun w hw => Ret.same (Tryz.strings_IndexByte ((⟨#[47, 0]⟩ : ByteArray).extract 2 (⟨#[47, 0]⟩ : ByteArray).size) ((gt (Utf8.encode r).data.toList 1).toNat : Int) w)) ?_)))))))))
      rintro v13 H14 ⟨rfl, rfl⟩ -
      refine qa rfl (TE_nil (sq (sq (plG [] [] (qm rfl (qq rfl (RD.lss rfl rfl) (n0 (pn_condD rfl (fun hc15 => ?_) (fun hc15 => ?_)))))))))
      ·exact sq (pl (qa rfl (n0 (rt (pn_doneS [] rfl rfl ⟨rfl, rfl⟩ (fun _ => Nat.zero_le _) (fun _ he => nomatch he))))))
      ·exfalso
       exact hc15 (by rw [sep_idx]; decide)
     ·exfalso
      have h9 := henc2 (by omega); have h8 : (gt ((⟨#[47, 0]⟩ : ByteArray).data.toList) 1) = 0 := rfl; rw [h8] at hc12; have h7 : (0 : UInt8).toNat = 0 := rfl; omega
    ·exact xt (sq (sq (pl (qa rfl (n0 (rt (pn_doneS [] rfl rfl ⟨rfl, rfl⟩ (fun _ => Nat.zero_le _) (fun _ he => nomatch he))))))))
theorem sep_key : ∀ n : Nat, n < 128 → decide (0 ≤ Lib.indexByte (⟨#[47, 0]⟩ : ByteArray).data.toList ((n : Int).toNat.toUInt8)) = decide ((n : Int) = 47 ∨ (n : Int) = 0) := by decide
theorem c_runeSep (r : Nat) (w : World) : Calls Tryz.prog 238 #[.string ⟨#[47, 0]⟩, .int .i32 (r : Int)] w (Ret w [] fun v H1 => ∃ z, v = .int .i64 z ∧ decide (0 ≤ z) = decide ((r : Int) = 47 ∨ (r : Int) = 0) ∧ H1 = []) := by
  by_cases h : r < 128
  · refine (Ret.same (Tryz.strings_IndexRune_ascii ⟨#[47, 0]⟩ r w (by omega) (by omega))).mono ?_
    rintro e w' ⟨v, H1, rfl, ⟨rfl, rfl⟩, h3⟩
    exact ⟨_, _, rfl, ⟨_, rfl, sep_key r h, rfl⟩, h3⟩
  · refine (c_runeBig (r : Int) w (by omega) (Hp.nil _)).mono ?_
    rintro e w' ⟨v, H1, rfl, ⟨rfl, rfl⟩, h3⟩
    exact ⟨_, _, rfl, ⟨_, rfl, by rw [decide_eq_false (by omega), decide_eq_false (by omega)], rfl⟩, h3⟩

theorem c_idxShort (s : ByteArray) (w : World) (hs : s.size ≤ 8) (hH : Hp [] w) : Calls Tryz.prog 237 #[.string s, .string ⟨#[47, 0]⟩] w (Ret w [] fun v H1 => ∃ z, v = .int .i64 z ∧ decide (0 ≤ z) = hasSep s ∧ H1 = []) := by
 refine fn_enter (args := [_, _]) func237 rfl ntmps237 rfl hH (sq (pl (qa rfl (n0 (sq (sq (pl (qm rfl (qq rfl (RD.as (v := .bool false) (RD.eql_string rfl rfl) (congrArg Value.bool (by decide))) ?_)))))))))
 refine n0 (pn_condF rfl (sk (sq (sq (pn_plain [1] rfl (qm rfl (qq rfl (RD.as (v := .int .i64 2) (RD.len_string runUnderlying9 rfl) rfl) (qq rfl (RD.as (v := .bool false) (RD.eql rfl rfl) rfl) (n0 ?_)))))))))
 refine pn_condF rfl (sk (sq (sq (pn_plain [1] rfl (qm rfl (qq rfl (RD.len_string runUnderlying9 rfl) (cG rfl call239 (fun w hw => Ret.same (Tryz.strings_shouldUseASCIISet (s.size : Int) w)) ?_)))))))
 rintro v1 H2 ⟨rfl, rfl⟩ -
 refine n0 (pn_condD rfl (fun hc3 => ?_) (fun hc3 => ?_))
 ·exfalso
  omega
 ·refine sk (sq (sq (pl (qm rfl (TE_rangeS rfl runUnderlying9 rfl trivial rfl fun b45 hb45 => (n0 (pn_block (lpS (σ := Nat) (fun q => [(1, .string ⟨#[47, 0]⟩), (45, .pointer (some ⟨b45, 0, none⟩))]) (fun q => [(b45, .stringIter s q)]) (fun q => (NoSep s q)) (fun q => s.size - q) 0 (fun j hj => absurd hj (Nat.not_lt_zero _)) ⟨rfl, rfl, trivial⟩ ?_))))))))
  rintro pos hns
  refine sq (pl ?_)
  refine (if hn4 : pos < s.size then ?_ else ?_)
  ·have ⟨hw5, hw6⟩ := decode_step hn4; refine TE_nextS (i := 0) rfl rfl trivial rfl rfl hn4 (.inl hb45) ?_
   refine qe rfl (n0 (sq (pn_condT rfl (sk (pn_block (sq (pl (qe rfl (qe rfl ?_)))))))))
   refine qa rfl (qa rfl (n0 (sq (pl (qm rfl (qm rfl (cG rfl call238 (fun w hw => c_runeSep ((Utf8.decode s pos).1) w) ?_)))))))
   rintro v9 H10 ⟨z7, rfl, hz8, rfl⟩ -
   refine qq rfl (RD.geq rfl rfl) (n0 (pn_condD rfl (fun hc11 => ?_) (fun hc11 => ?_)))
   ·exact sq (plG [] [] (qm rfl (qa rfl (n0 (rt (pn_doneS [] rfl rfl ⟨_, rfl, (by rw [NoSep.hit (by assumption) hz8 (by assumption)]; exact decide_eq_true (by omega)), rfl⟩ (fun _ => Nat.zero_le _) (fun _ he => nomatch he)))))))
   ·exact sk (agS (pos + (Utf8.decode s pos).2) (hns.step (by assumption) hz8 (by assumption)) (by omega) ⟨rfl, rfl, trivial⟩)
  ·refine TE_nextE (i := 0) rfl rfl trivial rfl rfl hn4 (qe rfl (n0 (sq (pn_condF rfl (xt (sq (plG [] [] (qa rfl (n0 ?_)))))))))
   exact rt (pn_doneS [] rfl rfl ⟨_, rfl, (by rw [NoSep.none hns (by omega)]; rfl), rfl⟩ (fun _ => Nat.zero_le _) (fun _ he => nomatch he))
theorem c_idxSep (s : ByteArray) (w : World) (hs : s.size ≤ 1000000) : Calls Tryz.prog 237 #[.string s, .string ⟨#[47, 0]⟩] w (Ret w [] fun v H1 => ∃ z, v = .int .i64 z ∧ decide (0 ≤ z) = hasSep s ∧ H1 = []) := by
  by_cases h : s.size ≤ 8
  · exact c_idxShort s w h (Hp.nil _)
  · refine (Ret.new2 (Tryz.strings_IndexAny_long zeroValue310 s ⟨#[47, 0]⟩ w (Nat.le_of_ble_eq_true rfl) (by omega) (by omega) (Nat.lt_of_lt_of_le (show 2 < 3 by decide) (by decide)) (fun j b hj => ?_))).mono ?_
    · have hl : j < 2 := (List.getElem?_eq_some_iff.1 hj).1
      have : j = 0 ∨ j = 1 := by omega
      rcases this with rfl | rfl
      · obtain rfl := Option.some.inj hj; decide
      · obtain rfl := Option.some.inj hj; decide
    · rintro e w' ⟨v, H1, rfl, ⟨rfl, rfl⟩, h3⟩
      exact ⟨_, _, rfl, ⟨_, rfl, indexAny_sep s, rfl⟩, h3⟩

theorem c_hasSep (s : ByteArray) (w : World) (hs : s.size ≤ 1000000) (hH : Hp [] w) : Calls Tryz.prog 236 #[.string s, .string ⟨#[47, 0]⟩] w (Ret w [] fun v H1 => v = .bool (hasSep s) ∧ H1 = []) := by
 refine fn_enter (args := [_, _]) func236 rfl ntmps236 rfl hH (sq (pl (qa rfl (n0 (sq (pl (qm rfl (qm rfl (cG rfl call237 (fun w hw => c_idxSep s w hs) ?_)))))))))
 rintro v3 H4 ⟨z1, rfl, hz2, rfl⟩ -
 exact qq rfl (RD.geq rfl rfl) (qa rfl (n0 (rt (pn_doneS [] rfl rfl ⟨(congrArg Value.bool hz2), rfl⟩ (fun _ => Nat.zero_le _) (fun _ he => nomatch he)))))
end Go.Proofs.YtmjmaloapafnlaaGreatDoor

namespace Go.Proofs.YtmjmaloapafnlaaGreatDoor
open Go Go.Mv
set_option maxRecDepth 8000
def sameGL {α : Type} (f : α → α → Bool) : List α → List α → Bool
  | [], [] => true
  | x :: xs, y :: ys => f x y && sameGL f xs ys
  | _, _ => false
section
variable {α : Type} {f : α → α → Bool}
theorem sameG_len : ∀ {xs ys : List α}, xs.length ≠ ys.length → sameGL f xs ys = false
  | [], [], h => absurd rfl h
  | [], _ :: _, _ => rfl
  | _ :: _, [], _ => rfl
  | x :: xs, y :: ys, h => by
    rw [sameGL, sameG_len (fun e => h (by simp [e])), Bool.and_false]
theorem sameG_F [Inhabited α] : ∀ {xs ys : List α} {i : Nat}, i < xs.length → i < ys.length → f (gt xs i) (gt ys i) = false → sameGL f xs ys = false
  | [], _, _, h, _, _ => absurd h (Nat.not_lt_zero _)
  | _ :: _, [], _, _, h, _ => absurd h (Nat.not_lt_zero _)
  | x :: xs, y :: ys, 0, _, _, h => by
    have h' : f x y = false := h
    rw [sameGL, h', Bool.false_and]
  | x :: xs, y :: ys, i + 1, h1, h2, h => by
    rw [sameGL, sameG_F (i := i) (by simpa using h1) (by simpa using h2) h, Bool.and_false]
theorem sameG_T [Inhabited α] : ∀ {xs ys : List α}, xs.length = ys.length → (∀ j, j < xs.length → f (gt xs j) (gt ys j) = true) → sameGL f xs ys = true
  | [], [], _, _ => rfl
  | [], _ :: _, h, _ => absurd h (by simp)
  | _ :: _, [], h, _ => absurd h (by simp)
  | x :: xs, y :: ys, h, ha => by
    have h0 : f x y = true := ha 0 (by simp)
    rw [sameGL, h0, Bool.true_and, sameG_T (by simpa using h) fun j hj => ha (j + 1) (by simpa using hj)]
theorem sameG_self (hf : ∀ x, f x x = true) : ∀ xs : List α, sameGL f xs xs = true
  | [] => rfl
  | x :: xs => by rw [sameGL, hf x, sameG_self hf xs]; rfl
end
theorem sameIG_eq : ∀ xs ys : List (Nat → Int), sameIL xs ys = sameGL (sameN 32) xs ys
  | [], [] => rfl
  | [], _ :: _ => rfl
  | _ :: _, [] => rfl
  | x :: xs, y :: ys => by rw [sameIL, sameGL, sameIG_eq xs ys]
theorem ba_eq {a b : List UInt8} : ((⟨a.toArray⟩ : ByteArray) = ⟨b.toArray⟩) ↔ a = b := by simp
def idZ (t : Nat → Int) : Bool := sameN 32 t fun _ => 0
structure EntOk (e : Ent) : Prop where
  n : e.name.size ≤ 5000
  id : IdOk e.id
structure ObOk (x : Ob) : Prop where
  d : x.data.length ≤ 1100
  e : x.ents.length ≤ 40
  p : x.pars.length ≤ 10
  m : x.m.size ≤ 5000
  en : ∀ e ∈ x.ents, EntOk e
  t : IdOk x.t
  g : IdOk x.tg.id
  pk : ∀ p ∈ x.pars, IdOk p
  pc : ∀ p ∈ x.pars, IdCan p
def nameB (s : ByteArray) : Bool := decide (1 ≤ s.size) && decide (s.size ≤ 64) && !hasSep s
def entAt (l : List Ent) (i : Nat) : Bool := nameB (gt l i).name && (decide ((gt l i).k = 1) || decide ((gt l i).k = 2)) && (decide (i = 0) || slt (gt l (i - 1)).name (gt l i).name)
def treeB (l : List Ent) : Bool := decide (l.length ≤ 32) && (List.range l.length).all (entAt l)
theorem tree_F2 {l : List Ent} {i : Nat} (hi : i < l.length) (h : entAt l i = false) : treeB l = false := by
  have : (List.range l.length).all (entAt l) = false := List.all_eq_false.2 ⟨i, List.mem_range.2 hi, by simp [h]⟩
  rw [treeB, this, Bool.and_false]
theorem tree_T {l : List Ent} (h : ∀ j, j < l.length → entAt l j = true) : treeB l = decide (l.length ≤ 32) := by
  have : (List.range l.length).all (entAt l) = true := List.all_eq_true.2 fun j hj => h j (List.mem_range.1 hj)
  rw [treeB, this, Bool.and_true]
/-- No two of them are the same. -/
def uniqB (l : List (Nat → Int)) : Bool := (List.range l.length).all fun i => (List.range i).all fun k => !sameN 32 (gt l i) (gt l k)
theorem uniq_T {l : List (Nat → Int)} (h : ∀ i k, i < l.length → k < i → sameN 32 (gt l i) (gt l k) = false) : uniqB l = true :=
  List.all_eq_true.2 fun i hi => List.all_eq_true.2 fun k hk => by rw [h i k (List.mem_range.1 hi) (List.mem_range.1 hk)]; rfl
theorem uniq_at {l : List (Nat → Int)} (h : uniqB l = true) {i k : Nat} (hi : i < l.length) (hk : k < i) : sameN 32 (gt l i) (gt l k) = false := by
  have := List.all_eq_true.1 (List.all_eq_true.1 h i (List.mem_range.2 hi)) k (List.mem_range.2 hk)
  simpa using this
def parsB (l : List (Nat → Int)) : Bool := decide (l.length ≤ 4) && uniqB l
def mayB (x : Ob) : Bool := if x.k = 1 then decide (x.data.length ≤ 1024) else if x.k = 2 then treeB x.ents else if x.k = 3 then parsB x.pars && decide (x.m.size ≤ 200) else if x.k = 4 then (decide (1 ≤ x.tg.k) && decide (x.tg.k ≤ 4)) && decide (x.m.size ≤ 200) else false
def zId : Nat → Int := fun _ => 0
def zLnk : Lnk := ⟨0, zId⟩
def bareOb (x : Ob) : Ob := if x.k = 1 then ⟨x.k, x.data, [], zId, [], zLnk, ⟨#[]⟩⟩ else if x.k = 2 then ⟨x.k, [], x.ents, zId, [], zLnk, ⟨#[]⟩⟩ else if x.k = 3 then ⟨x.k, [], [], x.t, x.pars, zLnk, x.m⟩ else ⟨x.k, [], [], zId, [], x.tg, x.m⟩
def obSame (a b : Ob) : Bool := decide (a.k = b.k) && (decide (a.data = b.data) && (sameGL same_ent a.ents b.ents && (sameN 32 a.t b.t && (sameIL a.pars b.pars && (same_lnk a.tg b.tg && decide (a.m = b.m))))))
def obOkB (x : Ob) : Bool := mayB x && obSame (bareOb x) x
theorem sameN_self (f : Nat → Int) (n : Nat) : sameN n f f = true := by
  induction n with
  | zero => rfl
  | succ n ih => simp [sameN, ih]
theorem same_ent_self (x : Ent) : same_ent x x = true := by simp [same_ent, sameN_self]

end Go.Proofs.YtmjmaloapafnlaaGreatDoor
