import Derived.Test.YthagkkmbbncclaaDoorDd
namespace Go.Proofs.YthagkkmbbncclaaDoor
open Go Go.Mv
set_option maxRecDepth 8000
theorem vec_size (f : Nat → Int) : (vecV f).cells.size = 16 := rfl
theorem vecOf_push {l : List Nat} {i k : Nat} (hi : i = l.length) (h : i < 16) : (vecV (vecOf l)).cells.setIfInBounds (0 + (i : Int).toNat * 1) (.int .u32 (k : Int)) = (vecV (vecOf (l ++ [k]))).cells := by
  subst hi
  rw [Int.toNat_natCast, Nat.mul_one, Nat.zero_add]
  apply Array.ext_getElem?
  intro j
  by_cases hj : j < 16
  · rw [vec_at _ hj]
    by_cases hjl : l.length = j
    · subst hjl
      rw [Array.getElem?_setIfInBounds_self_of_lt (by rw [vec_size]; exact hj)]
      simp [vecOf]
    · rw [Array.getElem?_setIfInBounds_ne hjl, vec_at _ hj]
      congr 2
      simp only [vecOf, List.getD_eq_getElem?_getD]
      by_cases hlt : j < l.length
      · rw [List.getElem?_append_left hlt]
      · rw [List.getElem?_append_right (by omega), List.getElem?_eq_none (by omega : l.length ≤ j), List.getElem?_eq_none (by simp; omega)]
  · rw [Array.getElem?_eq_none (by rw [Array.size_setIfInBounds, vec_size]; omega), Array.getElem?_eq_none (by rw [vec_size]; omega)]
theorem cnt_fail {m i : Nat} {l : List Nat} {r r1 : List UInt8} {e : Int} (hp : preD l (cntD (m - i) r) = cntD m r1) (hi : i < m) (h : numD 4294967295 r = .err e) : cntD m r1 = .err e := by
  rw [← hp, show m - i = (m - (i + 1)) + 1 from by omega, cntD_fail h]
theorem cnt_next {m i n : Nat} {l : List Nat} {r r1 r2 : List UInt8} (hp : preD l (cntD (m - i) r) = cntD m r1) (hi : i < m) (h : numD 4294967295 r = .ok n r2) : preD (l ++ [n]) (cntD (m - (i + 1)) r2) = cntD m r1 := by
  rw [← hp, show m - i = (m - (i + 1)) + 1 from by omega, cntD_step h]
theorem cnt_end {m i : Nat} {l : List Nat} {r r1 : List UInt8} (hp : preD l (cntD (m - i) r) = cntD m r1) (hi : i = m) : cntD m r1 = .ok l r := by
  rw [← hp, hi, Nat.sub_self]; simp [cntD, preD]

set_option maxHeartbeats 400000 in

theorem c_vecDec (HX : Mem) (s : Nat) (sv : Value) (ys : List UInt8) (w : World) (hb : Rdb HX sv ys) (hlen : ys.length ≤ 2199023255552) (hw : Hp (srcM s sv HX) w) : Calls Tryd.prog 67 #[.pointer (some ⟨s, 0, none⟩)] w (Ret w (keys (srcM s sv HX)) (Reads HX s (fun l : List Nat => vecV (vecOf l)) (vecV fun _ => 0) ys (vecD ys))) := by
  refine fn_enter (args := [_]) Tryd.func67 rfl Tryd.ntmps67 rfl hw ?_
  refine pn_seq ?_
  refine pn_plain [] rfl ?_
  refine TE_alloc rfl Tryd.zeroValue26 trivial rfl fun b2 hb2 => ?_
  refine TE_q rfl rfl (RD.assign rfl) rfl ?_
  refine TE_nil0 ?_
  refine pn_seq ?_
  refine pn_plain [] rfl ?_
  refine TE_q rfl rfl (RD.move rfl) rfl ?_
  refine TE_callT [_] (srcM s sv HX) rfl rfl rfl trivial Tryd.call71 rfl rfl rfl (fun e he => .inr (mem_keys.2 ⟨e, he, rfl⟩)) (fun w hs' => c_num HX s 16 sv ys w hb (by omega) (by omega) (hs'.hp.left.right (A := [_]))) ?_
  rintro v12 H1 (⟨m, r1, v1, hd, rfl, rfl, hq1, hl1⟩ | ⟨e, v1, r1, hd, he, rfl, rfl, hq1, hl1⟩) hX1
  · refine TE_q rfl rfl (RD.move rfl) rfl ?_
    refine TE_q rfl rfl (RD.extract rfl rfl) rfl ?_
    refine TE_q rfl rfl (RD.extract rfl rfl) rfl ?_
    refine TE_q rfl rfl (RD.assign rfl) rfl ?_
    refine TE_q rfl rfl (RD.assign rfl) rfl ?_
    refine TE_nil0 ?_
    refine pn_seq ?_
    refine pn_seq ?_
    refine pn_plain [] rfl ?_
    refine TE_q rfl rfl (RD.move rfl) rfl ?_
    refine TE_q rfl rfl (RD.neq rfl rfl) rfl ?_
    refine TE_nil0 ?_
    refine pn_condF rfl ?_
    refine pn_skip ?_
    refine pn_seq ?_
    refine pn_plain [] rfl ?_
    refine TE_alloc rfl Tryd.zeroValue26 trivial rfl fun b6 hb6 => ?_
    have hm16 := (numD_ok hd).2.1
    refine TE_nil0 ?_
    refine pn_seq ?_
    refine pn_seq ?_
    refine pn_plain [1] rfl ?_
    refine TE_q rfl rfl (RD.move rfl) rfl ?_
    refine TE_q rfl rfl (RD.as (RD.conv Tryd.runUnderlying74 Tryd.runUnderlying3 rfl) (by rw [wrap64_id (by omega) (by omega)])) rfl ?_
    refine TE_q rfl rfl (RD.move rfl) rfl ?_
    refine TE_nil0 ?_
    refine pn_block ?_
    refine pn_loop (σ := Nat × List Nat × List UInt8 × Value) (fun x => [(21, .int .i64 (x.1 : Int)), (20, .int .i64 (m : Int)), (6, .pointer (some ⟨b6, 0, none⟩)), (2, .pointer (some ⟨b2, 0, none⟩)), (4, .int .u64 (m : Int)), (0, .pointer (some ⟨s, 0, none⟩))]) (fun x => (b6, .cells (vecV (vecOf x.2.1)).cells 26 (0, 0)) :: (b2, .cells (vecV fun _ => 0).cells 26 (0, 0)) :: srcM s x.2.2.2 HX) (fun x => x.1 = x.2.1.length ∧ Rdb HX x.2.2.2 x.2.2.1 ∧ preD x.2.1 (cntD (m - x.1) x.2.2.1) = cntD m r1 ∧ x.1 ≤ m ∧ x.2.2.1.length ≤ ys.length) (fun x => m - x.1) (0, [], r1, v1) ⟨rfl, hq1, by cases cntD m r1 <;> rfl, Nat.zero_le _, hl1⟩ ⟨rfl, rfl, rfl, rfl, rfl, rfl, trivial⟩ (List.Sublist.refl _) ?_
    rintro ⟨i, l, r, v⟩ ⟨hil, hq, hpre, him, hlr⟩; dsimp only at hil hq hpre him hlr ⊢
    refine pn_seq ?_
    refine pn_plain [] rfl ?_
    refine TE_q rfl rfl (RD.lss rfl rfl) rfl ?_
    refine TE_nil0 ?_
    refine pn_seq ?_
    first | refine pn_condD rfl (fun hc1 => ?_) (fun hc1 => ?_) | refine pn_condN rfl (fun hc1 => ?_) (fun hc1 => ?_) | refine pn_cond rfl (fun hc1 => ?_) (fun hc1 => ?_)
    · refine pn_skip ?_
      refine pn_seq ?_
      refine pn_block ?_
      refine pn_seq ?_
      refine pn_plain [] rfl ?_
      refine TE_q rfl rfl (RD.move rfl) rfl ?_
      refine TE_q rfl rfl (RD.assign rfl) rfl ?_
      refine TE_nil0 ?_
      refine pn_seq ?_
      refine pn_plain [] rfl ?_
      refine TE_q rfl rfl (RD.move rfl) rfl ?_
      refine TE_callT [_, _] (srcM s v HX) rfl rfl rfl trivial Tryd.call71 rfl rfl rfl (fun e he => (in_src e he).symm) (fun w hs' => c_num HX s 4294967295 v r w hq (by omega) (by omega) (hs'.hp.left.right (A := [_, _]))) ?_
      rintro v26 H1 (⟨k, r2, v2, hd2, rfl, rfl, hq2, hl2⟩ | ⟨e, v2, r2, hd2, he, rfl, rfl, hq2, hl2⟩) hX2
      · refine TE_q rfl rfl (RD.move rfl) rfl ?_
        refine TE_q rfl rfl (RD.extract rfl rfl) rfl ?_
        refine TE_q rfl rfl (RD.extract rfl rfl) rfl ?_
        refine TE_q rfl rfl (RD.assign rfl) rfl ?_
        refine TE_q rfl rfl (RD.assign rfl) rfl ?_
        refine TE_nil0 ?_
        refine pn_seq ?_
        refine pn_seq ?_
        refine pn_plain [] rfl ?_
        refine TE_q rfl rfl (RD.move rfl) rfl ?_
        refine TE_q rfl rfl (RD.neq rfl rfl) rfl ?_
        refine TE_nil0 ?_
        refine pn_condF rfl ?_
        refine pn_skip ?_
        refine pn_plain [2] rfl ?_
        refine TE_q rfl rfl (RD.move rfl) rfl ?_
        have hk32 := (numD_ok hd2).2.1; have hi16 : i < 16 := (by omega)
        refine TE_q rfl rfl (RD.move rfl) rfl ?_
        refine TE_q rfl rfl (RD.as (v := .int .u32 (k : Int)) (RD.conv Tryd.runUnderlying74 Tryd.runUnderlying24 rfl) (by rw [u32_wrap, Int.emod_eq_of_lt (by omega) (by omega)])) rfl ?_
        refine TE_q rfl rfl (RD.indexAddrA Tryd.runUnderlying26 Tryd.sizeOf24 rfl rfl (by omega) (by omega)) rfl ?_
        refine TE_store (i := 0) rfl Tryd.sizeOf24 trivial rfl rfl rfl rfl rfl (by rw [vec_size]; simpa using hi16) (.inl hb6) ?_
        refine TE_nil0 ?_
        refine pn_perm ((b6, .cells (vecV (vecOf (l ++ [k]))).cells 26 (0, 0)) :: (b2, .cells (vecV fun _ => 0).cells 26 (0, 0)) :: srcM s v2 HX) (fun w h => by rw [← vecOf_push hil hi16]; exact h) ?_
        refine pn_plain [] rfl ?_
        refine TE_q rfl rfl (RD.addI rfl rfl (by omega) (by omega)) rfl ?_
        refine TE_q rfl rfl (RD.move rfl) rfl ?_
        refine TE_nil0 ?_
        (exact pn_again (i + 1, l ++ [k], r2, v2) ⟨by simp [hil], hq2, cnt_next hpre (by omega) hd2, by show i + 1 ≤ m; omega, by show r2.length ≤ ys.length; omega⟩ (by show m - (i + 1) < m - i; omega) ⟨rfl, rfl, rfl, rfl, rfl, rfl, trivial⟩ (List.Sublist.refl _))
      · refine TE_q rfl rfl (RD.move rfl) rfl ?_
        refine TE_q rfl rfl (RD.extract rfl rfl) rfl ?_
        refine TE_q rfl rfl (RD.extract rfl rfl) rfl ?_
        refine TE_q rfl rfl (RD.assign rfl) rfl ?_
        refine TE_q rfl rfl (RD.assign rfl) rfl ?_
        refine TE_nil0 ?_
        refine pn_seq ?_
        refine pn_seq ?_
        refine pn_plain [] rfl ?_
        refine TE_q rfl rfl (RD.move rfl) rfl ?_
        refine TE_q rfl rfl (RD.as (v := .bool true) (RD.neq rfl rfl) (by rw [decide_eq_false he]; rfl)) rfl ?_
        refine TE_nil0 ?_
        refine pn_condT rfl ?_
        refine pn_seq ?_
        refine pn_plain [] rfl ?_
        refine TE_q rfl rfl (RD.build rfl bd_vec0) rfl ?_
        refine TE_q rfl rfl (RD.move rfl) rfl ?_
        refine TE_put (i := 1) rfl Tryd.sizeOf26 trivial rfl rfl rfl rfl rfl rfl (.inl hb2) ?_
        refine TE_q rfl rfl (RD.assign rfl) rfl ?_
        refine TE_nil0 ?_
        refine pn_ret ?_
        exact pn_doneF rfl ⟨vecV fun _ => 0, _, b2, 0, rfl, rfl, load_agg (i := 1) Tryd.isAgg26 Tryd.sizeOf26 rfl (by first | (rw [size_putL]; exact Nat.le_of_ble_eq_true rfl) | exact Nat.le_of_ble_eq_true rfl) (put_vec _ _), _, _, rfl, rfl, rfl⟩ (.inr ⟨e, _, r2, by simp only [vecD, hd, cnt_fail hpre (by omega) hd2], he, rfl, rfl, hq2, by omega⟩) (fun w h => h.sub (.cons _ (List.sublist_cons_self _ _))) in_src
    · refine pn_exit ?_
      refine pn_seq ?_
      refine pn_seq ?_
      refine pn_plain [] rfl ?_
      refine TE_q rfl rfl (RD.move rfl) rfl ?_
      obtain rfl : m = i := (by omega); have hcnt := cnt_end hpre rfl
      refine TE_q rfl rfl (RD.gtr rfl rfl) rfl ?_
      refine TE_q rfl rfl (RD.move rfl) rfl ?_
      (first | refine TE_isT ?_ | refine TE_isF ?_ | refine TE_dec (fun h1302 => ?_) (fun h1302 => ?_) | refine TE_ndec (fun h1302 => ?_) (fun h1302 => ?_) | refine TE_bool (fun h1302 => ?_) (fun h1302 => ?_))
      all_goals (first | (refine TE_s rfl rfl rfl rfl rfl ?_) | (refine TE_gq rfl rfl rfl rfl (RD.move rfl) rfl ?_))
      all_goals (first | (refine TE_s rfl rfl rfl rfl rfl ?_) | (refine TE_gq rfl rfl rfl rfl (RD.as (v := .int .u64 ((m - 1 : Nat) : Int)) (RD.sub rfl rfl) (by rw [u64_wrap, Int.emod_eq_of_lt (by omega) (by omega)]; congr 1; omega)) rfl ?_))
      all_goals (first | (refine TE_s rfl rfl rfl rfl rfl ?_) | (refine TE_gq rfl rfl rfl rfl (RD.indexAddrA Tryd.runUnderlying26 Tryd.sizeOf24 rfl rfl (by omega) (by omega)) rfl ?_))
      all_goals (first | (refine TE_s rfl rfl rfl rfl rfl ?_) | (refine TE_l rfl rfl ⟨_, rfl, rfl⟩ rfl (RD.load (i := 0) Tryd.isAgg24 rfl rfl (vec_get (by omega) (by omega))) rfl ?_))
      all_goals (first | (refine TE_s rfl rfl rfl rfl rfl ?_) | (refine TE_gq rfl rfl rfl rfl (RD.eql rfl rfl) rfl ?_))
      all_goals (first | (refine TE_q rfl rfl (RD.pickT rfl rfl) rfl ?_) | (refine TE_q rfl rfl (RD.pickF rfl rfl) rfl ?_))
      all_goals refine TE_nil0 ?_
      all_goals first
        | (
            refine pn_condT rfl ?_
            refine pn_seq ?_
            refine pn_plain [] rfl ?_
            refine TE_q rfl rfl (RD.build rfl bd_vec0) rfl ?_
            refine TE_put (i := 1) rfl Tryd.sizeOf26 trivial rfl rfl rfl rfl rfl rfl (.inl hb2) ?_
            refine TE_q rfl rfl (RD.assign rfl) rfl ?_
            refine TE_nil0 ?_
            refine pn_ret ?_
            exact pn_doneF rfl ⟨vecV fun _ => 0, _, b2, 0, rfl, rfl, load_agg (i := 1) Tryd.isAgg26 Tryd.sizeOf26 rfl (by first | (rw [size_putL]; exact Nat.le_of_ble_eq_true rfl) | exact Nat.le_of_ble_eq_true rfl) (put_vec _ _), _, _, rfl, rfl, rfl⟩ (.inr ⟨62, _, r, by simp only [vecD, hd, hcnt]; rw [if_pos ⟨by omega, by have h9 : ((l.getD (m - 1) 0 : Nat) : Int) = 0 := hc3; omega⟩], by decide, rfl, rfl, hq, by omega⟩) (fun w h => h.sub (.cons _ (List.sublist_cons_self _ _))) in_src)
        | (
            refine pn_condF rfl ?_
            refine pn_skip ?_
            refine pn_seq ?_
            refine pn_plain [] rfl ?_
            refine TE_l rfl rfl trivial rfl (RD.loadA (v := vecV (vecOf l)) (i := 0) Tryd.isAgg26 Tryd.sizeOf26 rfl rfl (Nat.le_of_ble_eq_true rfl) (vec_all _)) rfl ?_
            refine TE_put (i := 1) rfl Tryd.sizeOf26 trivial rfl rfl rfl rfl rfl rfl (.inl hb2) ?_
            refine TE_q rfl rfl (RD.assign rfl) rfl ?_
            refine TE_nil0 ?_
            refine pn_ret ?_
            exact pn_doneF rfl ⟨vecV (vecOf l), _, b2, 0, rfl, rfl, load_agg (i := 1) Tryd.isAgg26 Tryd.sizeOf26 rfl (by first | (rw [size_putL]; exact Nat.le_of_ble_eq_true rfl) | exact Nat.le_of_ble_eq_true rfl) (put_vec _ _), _, _, rfl, rfl, rfl⟩ (.inl ⟨l, r, _, by simp only [vecD, hd, hcnt]; rw [if_neg]; rintro ⟨h0, hz⟩; first | (exact absurd h0 (by omega)) | (exact hc3 (show ((l.getD (m - 1) 0 : Nat) : Int) = 0 by omega)), rfl, rfl, hq, by omega⟩) (fun w h => h.sub (.cons _ (List.sublist_cons_self _ _))) in_src)
        | (
            first | refine pn_condD rfl (fun hc3 => ?_) (fun hc3 => ?_) | refine pn_condN rfl (fun hc3 => ?_) (fun hc3 => ?_) | refine pn_cond rfl (fun hc3 => ?_) (fun hc3 => ?_)
            · refine pn_seq ?_
              refine pn_plain [] rfl ?_
              refine TE_q rfl rfl (RD.build rfl bd_vec0) rfl ?_
              refine TE_put (i := 1) rfl Tryd.sizeOf26 trivial rfl rfl rfl rfl rfl rfl (.inl hb2) ?_
              refine TE_q rfl rfl (RD.assign rfl) rfl ?_
              refine TE_nil0 ?_
              refine pn_ret ?_
              exact pn_doneF rfl ⟨vecV fun _ => 0, _, b2, 0, rfl, rfl, load_agg (i := 1) Tryd.isAgg26 Tryd.sizeOf26 rfl (by first | (rw [size_putL]; exact Nat.le_of_ble_eq_true rfl) | exact Nat.le_of_ble_eq_true rfl) (put_vec _ _), _, _, rfl, rfl, rfl⟩ (.inr ⟨62, _, r, by simp only [vecD, hd, hcnt]; rw [if_pos ⟨by omega, by have h9 : ((l.getD (m - 1) 0 : Nat) : Int) = 0 := hc3; omega⟩], by decide, rfl, rfl, hq, by omega⟩) (fun w h => h.sub (.cons _ (List.sublist_cons_self _ _))) in_src
            · refine pn_skip ?_
              refine pn_seq ?_
              refine pn_plain [] rfl ?_
              refine TE_l rfl rfl trivial rfl (RD.loadA (v := vecV (vecOf l)) (i := 0) Tryd.isAgg26 Tryd.sizeOf26 rfl rfl (Nat.le_of_ble_eq_true rfl) (vec_all _)) rfl ?_
              refine TE_put (i := 1) rfl Tryd.sizeOf26 trivial rfl rfl rfl rfl rfl rfl (.inl hb2) ?_
              refine TE_q rfl rfl (RD.assign rfl) rfl ?_
              refine TE_nil0 ?_
              refine pn_ret ?_
              exact pn_doneF rfl ⟨vecV (vecOf l), _, b2, 0, rfl, rfl, load_agg (i := 1) Tryd.isAgg26 Tryd.sizeOf26 rfl (by first | (rw [size_putL]; exact Nat.le_of_ble_eq_true rfl) | exact Nat.le_of_ble_eq_true rfl) (put_vec _ _), _, _, rfl, rfl, rfl⟩ (.inl ⟨l, r, _, by simp only [vecD, hd, hcnt]; rw [if_neg]; rintro ⟨h0, hz⟩; first | (exact absurd h0 (by omega)) | (exact hc3 (show ((l.getD (m - 1) 0 : Nat) : Int) = 0 by omega)), rfl, rfl, hq, by omega⟩) (fun w h => h.sub (.cons _ (List.sublist_cons_self _ _))) in_src)
  · refine TE_q rfl rfl (RD.move rfl) rfl ?_
    refine TE_q rfl rfl (RD.extract rfl rfl) rfl ?_
    refine TE_q rfl rfl (RD.extract rfl rfl) rfl ?_
    refine TE_q rfl rfl (RD.assign rfl) rfl ?_
    refine TE_q rfl rfl (RD.assign rfl) rfl ?_
    refine TE_nil0 ?_
    refine pn_seq ?_
    refine pn_seq ?_
    refine pn_plain [] rfl ?_
    refine TE_q rfl rfl (RD.move rfl) rfl ?_
    refine TE_q rfl rfl (RD.as (v := .bool true) (RD.neq rfl rfl) (by rw [decide_eq_false he]; rfl)) rfl ?_
    refine TE_nil0 ?_
    refine pn_condT rfl ?_
    refine pn_seq ?_
    refine pn_plain [] rfl ?_
    refine TE_q rfl rfl (RD.build rfl bd_vec0) rfl ?_
    refine TE_q rfl rfl (RD.move rfl) rfl ?_
    refine TE_put (i := 0) rfl Tryd.sizeOf26 trivial rfl rfl rfl rfl rfl rfl (.inl hb2) ?_
    refine TE_q rfl rfl (RD.assign rfl) rfl ?_
    refine TE_nil0 ?_
    refine pn_ret ?_
    exact pn_doneF rfl ⟨vecV fun _ => 0, _, b2, 0, rfl, rfl, load_agg (i := 0) Tryd.isAgg26 Tryd.sizeOf26 rfl (by first | (rw [size_putL]; exact Nat.le_of_ble_eq_true rfl) | exact Nat.le_of_ble_eq_true rfl) (put_agg rfl rfl rfl rfl), _, _, rfl, rfl, rfl⟩ (.inr ⟨e, _, r1, by simp only [vecD, hd], he, rfl, rfl, hq1, hl1⟩) (fun w h => h.sub (List.sublist_cons_self _ _)) in_src

end Go.Proofs.YthagkkmbbncclaaDoor
