import Derived.Test.YthagkkmbbncclaaDoorR5
namespace Go.Proofs.YthagkkmbbncclaaDoor
open Go Go.Mv
set_option maxRecDepth 8000
theorem vMany_down {v : Nat → Int} {j : Nat} (h : vMany v = vManyTo v j) (h0 : 0 < j ∧ v (j - 1) = 0) : vMany v = vManyTo v (j - 1) := by
  obtain ⟨i, rfl⟩ : ∃ i, j = i + 1 := ⟨j - 1, by omega⟩
  rw [h]; exact vManyTo_F (by simp at h0; omega)
theorem vMany_stop {v : Nat → Int} (hv : VecOk v) {j : Nat} (h : vMany v = vManyTo v j) (h0 : ¬ (0 < j ∧ v (j - 1) = 0)) : vMany v = j := by
  rw [h]
  cases j with
  | zero => rfl
  | succ i =>
    refine vManyTo_T ?_
    have := hv i
    by_cases h1 : v i = 0
    · exact absurd ⟨by omega, h1⟩ h0
    · omega
theorem put_vec_hp {cs : Array Value} {b : Nat} {T : TypeId} {fz : Nat × Nat} {R : Mem} {w : World} (h : Hp ((b, .cells (putL cs 0 (vecV fun _ => 0).cells.toList) T fz) :: R) w) (hs : cs.size = 16) : Hp ((b, .cells (vecV (vecOf [])).cells T fz) :: R) w := by
  rw [putL_whole (by rw [hs]; rfl)] at h
  exact h
theorem vecU_lt {v : Nat → Int} (hv : VecOk v) {i : Nat} (hi : i ≤ 16) : (vecU v i).length ≤ 160 := by
  have := vecU_len hv i; omega

set_option maxHeartbeats 2000000 in

theorem c_r6Enc (v : Nat → Int) (w : World) (hv : VecOk v) : Calls Tryd.prog 62 #[vecV v] w (Ret w [] fun x H1 => RetB 5 x H1 (vecL v)) := by
  refine fn_enter (args := [_]) Tryd.func62 rfl Tryd.ntmps62 rfl (Hp.nil w) ?_
  refine pn_seq ?_
  refine pn_plain [] rfl ?_
  refine TE_box rfl rfl trivial rfl fun b1 hb1 => ?_
  refine TE_q rfl rfl (RD.assign rfl) rfl ?_
  refine TE_nil0 ?_
  refine pn_seq ?_
  refine pn_plain [] rfl ?_
  refine TE_q rfl rfl (RD.assign rfl) rfl ?_
  refine TE_nil0 ?_
  refine pn_seq ?_
  refine pn_block ?_
  refine pn_loop (σ := Nat) (fun j => [(3, .int .i64 (j : Int)), (1, .pointer (some ⟨b1, 0, none⟩))]) (fun _ => [(b1, .cells (vecV v).cells 26 (0, 0))]) (fun j => j ≤ 16 ∧ vMany v = vManyTo v j) (fun j => j) 16 ⟨by decide, rfl⟩ ⟨rfl, rfl, trivial⟩ (List.Sublist.refl _) ?_
  rintro j ⟨hj, hm⟩
  refine pn_seq ?_
  refine pn_seq ?_
  refine pn_cut (σ := Unit) (fun _ => [(14, .bool (decide (0 < j ∧ v (j - 1) = 0))), (3, .int .i64 (j : Int)), (1, .pointer (some ⟨b1, 0, none⟩))]) (fun _ => [(b1, .cells (vecV v).cells 26 (0, 0))]) (fun _ => True) ?_ ?_
  · refine pn_plain [] rfl ?_
    refine TE_q rfl rfl (RD.move rfl) rfl ?_
    refine TE_q rfl rfl (RD.gtr rfl rfl) rfl ?_
    refine TE_q rfl rfl (RD.move rfl) rfl ?_
    (first | refine TE_isT ?_ | refine TE_isF ?_ | refine TE_dec (fun h202 => ?_) (fun h202 => ?_) | refine TE_ndec (fun h202 => ?_) (fun h202 => ?_) | refine TE_bool (fun h202 => ?_) (fun h202 => ?_))
    all_goals (first | (refine TE_s rfl rfl rfl rfl rfl ?_) | (refine TE_gq rfl rfl rfl rfl (RD.move rfl) rfl ?_))
    all_goals (first | (refine TE_s rfl rfl rfl rfl rfl ?_) | (refine TE_gq rfl rfl rfl rfl (RD.subI rfl rfl (by omega) (by omega)) rfl ?_))
    all_goals (first | (refine TE_s rfl rfl rfl rfl rfl ?_) | (refine TE_gq rfl rfl rfl rfl (RD.indexAddrA Tryd.runUnderlying26 Tryd.sizeOf24 rfl rfl (by omega) (by omega)) rfl ?_))
    all_goals (first | (refine TE_s rfl rfl rfl rfl rfl ?_) | (refine TE_l rfl rfl ⟨_, rfl, rfl⟩ rfl (RD.load (i := 0) Tryd.isAgg24 rfl rfl (vec_get (by omega) (by omega))) rfl ?_))
    all_goals (first | (refine TE_s rfl rfl rfl rfl rfl ?_) | (refine TE_gq rfl rfl rfl rfl (RD.eql rfl rfl) rfl ?_))
    all_goals (first | (refine TE_q rfl rfl (RD.pickT rfl rfl) rfl ?_) | (refine TE_q rfl rfl (RD.pickF rfl rfl) rfl ?_))
    all_goals refine TE_nil0 ?_
    all_goals (first | (have hF : ¬ (0 < j ∧ v (j - 1) = 0) := (by omega); exact pn_give () trivial ⟨by rw [decide_eq_false hF]; rfl, rfl, rfl, trivial⟩ (fun w h => h)) | (have hF : (0 < j ∧ v (j - 1) = 0) ↔ v (((j : Int) - 1).toNat) = 0 := (by rw [show ((j : Int) - 1).toNat = j - 1 from by omega]; omega); exact pn_give () trivial ⟨by rw [decide_eq_decide.2 hF]; rfl, rfl, rfl, trivial⟩ (fun w h => h)))
  rintro - -
  first | refine pn_condD rfl (fun hc0 => ?_) (fun hc0 => ?_) | refine pn_condN rfl (fun hc0 => ?_) (fun hc0 => ?_) | refine pn_cond rfl (fun hc0 => ?_) (fun hc0 => ?_)
  · refine pn_skip ?_
    refine pn_block ?_
    refine pn_plain [] rfl ?_
    refine TE_q rfl rfl (RD.move rfl) rfl ?_
    refine TE_q rfl rfl (RD.as (v := .int .i64 ((j - 1 : Nat) : Int)) (RD.subI rfl rfl (by omega) (by omega)) (by congr 1; omega)) rfl ?_
    refine TE_q rfl rfl (RD.assign rfl) rfl ?_
    refine TE_nil0 ?_
    (exact pn_again (j - 1) ⟨by omega, vMany_down hm hc0⟩ (by omega) ⟨rfl, rfl, trivial⟩ (List.Sublist.refl _))
  · refine pn_exit ?_
    refine pn_seq ?_
    refine pn_plain [1] rfl ?_
    refine TE_q rfl rfl (RD.move rfl) rfl ?_
    obtain rfl : vMany v = j := vMany_stop hv hm hc0
    refine TE_q rfl rfl (RD.as (RD.conv Tryd.runUnderlying3 Tryd.runUnderlying74 rfl) (u64_len (by omega))) rfl ?_
    refine TE_call rfl rfl trivial Tryd.call74 rfl rfl rfl (fun w hs' => c_rNum (vMany v) w (by omega)) ?_
    rintro v19 H2 hr hX2
    refine TE_q rfl rfl (RD.assign rfl) rfl ?_
    refine TE_nil0 ?_
    refine pn_seq ?_
    refine pn_seq ?_
    obtain ⟨st, hok, rfl, rfl⟩ := hr.bld; refine pn_perm ((b1, .cells (vecV v).cells 26 (0, 0)) :: bldM 5 (lebL (vMany v)) st) (fun w h => h.perm List.perm_append_comm) ?_
    refine pn_plain [] rfl ?_
    refine TE_q rfl rfl (RD.assign rfl) rfl ?_
    refine TE_nil0 ?_
    refine pn_block ?_
    refine pn_loop (σ := Nat × SnkS) (fun x => [(5, .int .i64 (x.1 : Int)), (4, bldV (lebL (vMany v) ++ vecU v x.1) x.2), (3, .int .i64 (vMany v : Nat)), (1, .pointer (some ⟨b1, 0, none⟩))]) (fun x => (b1, .cells (vecV v).cells 26 (0, 0)) :: bldM 5 (lebL (vMany v) ++ vecU v x.1) x.2) (fun x => x.1 ≤ vMany v ∧ SnkOk (lebL (vMany v) ++ vecU v x.1) x.2 ∧ ∀ e ∈ bldM 5 (lebL (vMany v) ++ vecU v x.1) x.2, w.heap.size ≤ e.1 ∨ e.1 ∈ []) (fun x => vMany v - x.1) (0, st) ⟨Nat.zero_le _, by show SnkOk (lebL (vMany v) ++ []) _; rw [List.append_nil]; exact hok, by show ∀ e ∈ bldM 5 (lebL (vMany v) ++ []) _, _; rw [List.append_nil]; exact fun e he => .inl (hX2 e he)⟩ ⟨rfl, by show _ = some (bldV (lebL (vMany v) ++ []) _); rw [List.append_nil]; rfl, rfl, rfl, trivial⟩ (by show List.Sublist (_ :: bldM _ (lebL (vMany v) ++ []) _) _; rw [List.append_nil]; exact List.Sublist.refl _) ?_
    rintro ⟨i, st⟩ ⟨hi, hok, hX⟩; dsimp only at hi hok hX ⊢; have hvi := hv i; have h20 := vecU_lt hv (i := i) (by omega); have h21 := lebL_len64 (n := vMany v) (by omega); have h22 := lebL_len64 (n := (v i).toNat) (by omega)
    refine pn_seq ?_
    refine pn_seq ?_
    refine pn_plain [] rfl ?_
    refine TE_q rfl rfl (RD.move rfl) rfl ?_
    refine TE_q rfl rfl (RD.move rfl) rfl ?_
    refine TE_q rfl rfl (RD.lss rfl rfl) rfl ?_
    refine TE_nil0 ?_
    first | refine pn_condD rfl (fun hc1 => ?_) (fun hc1 => ?_) | refine pn_condN rfl (fun hc1 => ?_) (fun hc1 => ?_) | refine pn_cond rfl (fun hc1 => ?_) (fun hc1 => ?_)
    · refine pn_skip ?_
      refine pn_seq ?_
      refine pn_block ?_
      refine pn_plain [4] rfl ?_
      refine TE_q rfl rfl (RD.move rfl) rfl ?_
      refine TE_q rfl rfl (RD.move rfl) rfl ?_
      refine TE_q rfl rfl (RD.indexAddrA Tryd.runUnderlying26 Tryd.sizeOf24 rfl rfl (by omega) (by omega)) rfl ?_
      refine TE_l rfl rfl trivial rfl (RD.load (i := 0) Tryd.isAgg24 rfl rfl (vec_get (by omega) (by omega))) rfl ?_
      refine TE_q rfl rfl (RD.as (RD.conv Tryd.runUnderlying24 Tryd.runUnderlying74 rfl) (u64_of (x := v i) (by omega) (by omega))) rfl ?_
      refine TE_call rfl rfl trivial Tryd.call74 rfl rfl rfl (fun w hs' => c_rNum (v i).toNat w (by omega)) ?_
      rintro v30 H5 hr2 hX5
      refine TE_appendO (st := st) (l := lebL (vMany v) ++ vecU v i) (ys := lebL (v i).toNat) (H5 ++ [(b1, .cells (vecV v).cells 26 (0, 0))]) [] (by simp) rfl rfl trivial rfl Tryd.underlying35 elByteR rfl rfl rfl hok (hr2.bytes.mono (fun w h => h.left.left)) (by simp only [List.length_append]; omega) hX ?_
      intro st1 hok1 hX1
      refine TE_q rfl rfl (RD.assign rfl) rfl ?_
      refine TE_nil0 ?_
      refine pn_plain [] rfl ?_
      refine TE_q rfl rfl (RD.move rfl) rfl ?_
      refine TE_q rfl rfl (RD.addI rfl rfl (by omega) (by omega)) rfl ?_
      refine TE_q rfl rfl (RD.assign rfl) rfl ?_
      refine TE_nil0 ?_
      (exact pn_again (i + 1, st1) ⟨by show i + 1 ≤ vMany v; omega, by show SnkOk (lebL (vMany v) ++ (vecU v i ++ lebL (v i).toNat)) _; rw [← List.append_assoc]; exact hok1, by show ∀ e ∈ bldM _ (lebL (vMany v) ++ (vecU v i ++ lebL (v i).toNat)) _, _; rw [← List.append_assoc]; exact hX1⟩ (by show vMany v - (i + 1) < vMany v - i; omega) ⟨rfl, by show _ = some (bldV (lebL (vMany v) ++ (vecU v i ++ lebL (v i).toNat)) _); rw [← List.append_assoc]; rfl, rfl, rfl, trivial⟩ (by show List.Sublist (_ :: bldM _ (lebL (vMany v) ++ (vecU v i ++ lebL (v i).toNat)) _) _; rw [← List.append_assoc, List.append_nil]; exact List.Sublist.append_right (List.sublist_append_right H5 [_]) _))
    · refine pn_exit ?_
      refine pn_seq ?_
      refine pn_plain [] rfl ?_
      refine TE_q rfl rfl (RD.move rfl) rfl ?_
      refine TE_q rfl rfl (RD.assign rfl) rfl ?_
      refine TE_nil0 ?_
      refine pn_ret ?_
      obtain rfl : i = vMany v := (by omega); exact pn_doneF rfl ⟨_, _, rfl, rfl, rfl⟩ (RetB.of_bld hok) (fun w h => h.sub (List.sublist_cons_self _ _)) (where_ hX)

set_option maxHeartbeats 4000000 in

theorem c_r6Dec (HX : Mem) (s : Nat) (sv : Value) (ys : List UInt8) (w : World) (hb : Rdb HX sv ys) (hlen : ys.length ≤ 2199023255552) (hw : Hp (rsrcM s sv HX) w) : Calls Tryd.prog 43 #[.pointer (some ⟨s, 0, none⟩)] w (Ret w (keys (rsrcM s sv HX)) (RReads HX s (fun l : List Nat => vecV (vecOf l)) (vecV fun _ => 0) ys (vecD ys))) := by
  refine fn_enter (args := [_]) Tryd.func43 rfl Tryd.ntmps43 rfl hw ?_
  refine pn_seq ?_
  refine pn_plain [] rfl ?_
  refine TE_alloc rfl Tryd.zeroValue26 trivial rfl fun b2 hb2 => ?_
  refine TE_q rfl rfl (RD.assign rfl) rfl ?_
  refine TE_nil0 ?_
  refine pn_seq ?_
  refine pn_plain [] rfl ?_
  refine TE_q rfl rfl (RD.move rfl) rfl ?_
  refine TE_callT [_] (rsrcM s sv HX) rfl rfl rfl trivial Tryd.call45 rfl rfl rfl (fun e he => .inr (mem_keys.2 ⟨e, he, rfl⟩)) (fun w hs' => c_rsNum HX s 16 sv ys w hb (by omega) (hs'.hp.left.right (A := [_]))) ?_
  rintro v12 H1 (⟨m, r1, v1, hd, rfl, rfl, hq1, hl1⟩ | ⟨e, v1, r1, hd, he, rfl, rfl, hq1, hl1⟩) hX1
  · refine TE_q rfl rfl (RD.move rfl) rfl ?_
    refine TE_q rfl rfl (RD.extract rfl rfl) rfl ?_
    refine TE_q rfl rfl (RD.extract rfl rfl) rfl ?_
    refine TE_q rfl rfl (RD.assign rfl) rfl ?_
    refine TE_q rfl rfl (RD.assign rfl) rfl ?_
    refine TE_nil0 ?_
    refine pn_seq ?_
    refine pn_seq ?_
    refine pn_plain [] rfl ?_
    refine TE_q rfl rfl (RD.move rfl) rfl ?_
    refine TE_q rfl rfl (RD.neq rfl rfl) rfl ?_
    refine TE_nil0 ?_
    refine pn_condF rfl ?_
    refine pn_skip ?_
    refine pn_seq ?_
    refine pn_plain [] rfl ?_
    refine TE_q rfl rfl (RD.build rfl bd_vec0) rfl ?_
    have hm16 := (numD_ok hd).2.1
    refine TE_alloc rfl Tryd.zeroValue26 trivial rfl fun b6 hb6 => ?_
    refine TE_put (i := 0) rfl Tryd.sizeOf26 trivial rfl rfl rfl rfl rfl rfl (.inl hb6) ?_
    refine TE_nil0 ?_
    refine pn_seq ?_
    refine pn_seq ?_
    refine pn_perm ((b6, .cells (vecV (vecOf [])).cells 26 (0, 0)) :: (b2, .cells (vecV fun _ => 0).cells 26 (0, 0)) :: rsrcM s v1 HX) (fun w h => put_vec_hp h rfl) ?_
    refine pn_plain [] rfl ?_
    refine TE_q rfl rfl (RD.assign rfl) rfl ?_
    refine TE_nil0 ?_
    refine pn_block ?_
    refine pn_loop (σ := Nat × List Nat × List UInt8 × Value) (fun x => [(7, .int .i64 (x.1 : Int)), (6, .pointer (some ⟨b6, 0, none⟩)), (2, .pointer (some ⟨b2, 0, none⟩)), (4, .int .u64 (m : Int)), (0, .pointer (some ⟨s, 0, none⟩))]) (fun x => (b6, .cells (vecV (vecOf x.2.1)).cells 26 (0, 0)) :: (b2, .cells (vecV fun _ => 0).cells 26 (0, 0)) :: rsrcM s x.2.2.2 HX) (fun x => x.1 = x.2.1.length ∧ Rdb HX x.2.2.2 x.2.2.1 ∧ preD x.2.1 (cntD (m - x.1) x.2.2.1) = cntD m r1 ∧ x.1 ≤ m ∧ x.2.2.1.length ≤ ys.length) (fun x => m - x.1) (0, [], r1, v1) ⟨rfl, hq1, by cases cntD m r1 <;> rfl, Nat.zero_le _, hl1⟩ ⟨rfl, rfl, rfl, rfl, rfl, trivial⟩ (List.Sublist.refl _) ?_
    rintro ⟨i, l, r, v⟩ ⟨hil, hq, hpre, him, hlr⟩; dsimp only at hil hq hpre him hlr ⊢
    refine pn_seq ?_
    refine pn_seq ?_
    refine pn_plain [2] rfl ?_
    refine TE_q rfl rfl (RD.move rfl) rfl ?_
    refine TE_q rfl rfl (RD.move rfl) rfl ?_
    refine TE_q rfl rfl (RD.as (v := .int .i64 (m : Int)) (RD.conv Tryd.runUnderlying74 Tryd.runUnderlying3 rfl) (by rw [wrap64_id (by omega) (by omega)])) rfl ?_
    refine TE_q rfl rfl (RD.lss rfl rfl) rfl ?_
    refine TE_nil0 ?_
    first | refine pn_condD rfl (fun hc1 => ?_) (fun hc1 => ?_) | refine pn_condN rfl (fun hc1 => ?_) (fun hc1 => ?_) | refine pn_cond rfl (fun hc1 => ?_) (fun hc1 => ?_)
    · refine pn_skip ?_
      refine pn_seq ?_
      refine pn_block ?_
      refine pn_seq ?_
      refine pn_plain [] rfl ?_
      refine TE_q rfl rfl (RD.move rfl) rfl ?_
      refine TE_callT [_, _] (rsrcM s v HX) rfl rfl rfl trivial Tryd.call45 rfl rfl rfl (fun e he => (in_rsrc e he).symm) (fun w hs' => c_rsNum HX s 4294967295 v r w hq (by omega) (hs'.hp.left.right (A := [_, _]))) ?_
      rintro v28 H1 (⟨k, r2, v2, hd2, rfl, rfl, hq2, hl2⟩ | ⟨e, v2, r2, hd2, he, rfl, rfl, hq2, hl2⟩) hX2
      · refine TE_q rfl rfl (RD.move rfl) rfl ?_
        refine TE_q rfl rfl (RD.extract rfl rfl) rfl ?_
        refine TE_q rfl rfl (RD.extract rfl rfl) rfl ?_
        refine TE_q rfl rfl (RD.assign rfl) rfl ?_
        refine TE_q rfl rfl (RD.assign rfl) rfl ?_
        refine TE_nil0 ?_
        refine pn_seq ?_
        refine pn_seq ?_
        refine pn_plain [] rfl ?_
        refine TE_q rfl rfl (RD.move rfl) rfl ?_
        refine TE_q rfl rfl (RD.neq rfl rfl) rfl ?_
        refine TE_nil0 ?_
        refine pn_condF rfl ?_
        refine pn_skip ?_
        refine pn_plain [2] rfl ?_
        refine TE_q rfl rfl (RD.move rfl) rfl ?_
        have hk32 := (numD_ok hd2).2.1; have hi16 : i < 16 := (by omega)
        refine TE_q rfl rfl (RD.move rfl) rfl ?_
        refine TE_q rfl rfl (RD.as (v := .int .u32 (k : Int)) (RD.conv Tryd.runUnderlying74 Tryd.runUnderlying24 rfl) (by rw [u32_wrap, Int.emod_eq_of_lt (by omega) (by omega)])) rfl ?_
        refine TE_q rfl rfl (RD.indexAddrA Tryd.runUnderlying26 Tryd.sizeOf24 rfl rfl (by omega) (by omega)) rfl ?_
        refine TE_store (i := 0) rfl Tryd.sizeOf24 trivial rfl rfl rfl rfl rfl (by rw [vec_size]; simpa using hi16) (.inl hb6) ?_
        refine TE_nil0 ?_
        refine pn_perm ((b6, .cells (vecV (vecOf (l ++ [k]))).cells 26 (0, 0)) :: (b2, .cells (vecV fun _ => 0).cells 26 (0, 0)) :: rsrcM s v2 HX) (fun w h => by rw [← vecOf_push hil hi16]; exact h) ?_
        refine pn_plain [] rfl ?_
        refine TE_q rfl rfl (RD.move rfl) rfl ?_
        refine TE_q rfl rfl (RD.addI rfl rfl (by omega) (by omega)) rfl ?_
        refine TE_q rfl rfl (RD.assign rfl) rfl ?_
        refine TE_nil0 ?_
        (exact pn_again (i + 1, l ++ [k], r2, v2) ⟨by simp [hil], hq2, cnt_next hpre (by omega) hd2, by show i + 1 ≤ m; omega, by show r2.length ≤ ys.length; omega⟩ (by show m - (i + 1) < m - i; omega) ⟨rfl, rfl, rfl, rfl, rfl, trivial⟩ (List.Sublist.refl _))
      · refine TE_q rfl rfl (RD.move rfl) rfl ?_
        refine TE_q rfl rfl (RD.extract rfl rfl) rfl ?_
        refine TE_q rfl rfl (RD.extract rfl rfl) rfl ?_
        refine TE_q rfl rfl (RD.assign rfl) rfl ?_
        refine TE_q rfl rfl (RD.assign rfl) rfl ?_
        refine TE_nil0 ?_
        refine pn_seq ?_
        refine pn_seq ?_
        refine pn_plain [] rfl ?_
        refine TE_q rfl rfl (RD.move rfl) rfl ?_
        refine TE_q rfl rfl (RD.as (v := .bool true) (RD.neq rfl rfl) (by rw [decide_eq_false he]; rfl)) rfl ?_
        refine TE_nil0 ?_
        refine pn_condT rfl ?_
        refine pn_seq ?_
        refine pn_plain [] rfl ?_
        refine TE_q rfl rfl (RD.build rfl bd_vec0) rfl ?_
        refine TE_q rfl rfl (RD.move rfl) rfl ?_
        refine TE_put (i := 1) rfl Tryd.sizeOf26 trivial rfl rfl rfl rfl rfl rfl (.inl hb2) ?_
        refine TE_q rfl rfl (RD.assign rfl) rfl ?_
        refine TE_nil0 ?_
        refine pn_ret ?_
        exact pn_doneF rfl ⟨vecV fun _ => 0, _, b2, 0, rfl, rfl, load_agg (i := 1) Tryd.isAgg26 Tryd.sizeOf26 rfl (by first | (rw [size_putL]; exact Nat.le_of_ble_eq_true rfl) | exact Nat.le_of_ble_eq_true rfl) (put_vec _ _), _, _, rfl, rfl, rfl⟩ (.inr ⟨e, _, r2, by simp only [vecD, hd, cnt_fail hpre (by omega) hd2], he, rfl, rfl, hq2, by omega⟩) (fun w h => h.sub (.cons _ (List.sublist_cons_self _ _))) in_rsrc
    · refine pn_exit ?_
      refine pn_seq ?_
      refine pn_seq ?_
      refine pn_plain [] rfl ?_
      refine TE_q rfl rfl (RD.move rfl) rfl ?_
      obtain rfl : m = i := (by omega); have hcnt := cnt_end hpre rfl
      refine TE_q rfl rfl (RD.gtr rfl rfl) rfl ?_
      refine TE_q rfl rfl (RD.move rfl) rfl ?_
      (first | refine TE_isT ?_ | refine TE_isF ?_ | refine TE_dec (fun h1202 => ?_) (fun h1202 => ?_) | refine TE_ndec (fun h1202 => ?_) (fun h1202 => ?_) | refine TE_bool (fun h1202 => ?_) (fun h1202 => ?_))
      all_goals (first | (refine TE_s rfl rfl rfl rfl rfl ?_) | (refine TE_gq rfl rfl rfl rfl (RD.move rfl) rfl ?_))
      all_goals (first | (refine TE_s rfl rfl rfl rfl rfl ?_) | (refine TE_gq rfl rfl rfl rfl (RD.as (v := .int .u64 ((m - 1 : Nat) : Int)) (RD.sub rfl rfl) (by rw [u64_wrap, Int.emod_eq_of_lt (by omega) (by omega)]; congr 1; omega)) rfl ?_))
      all_goals (first | (refine TE_s rfl rfl rfl rfl rfl ?_) | (refine TE_gq rfl rfl rfl rfl (RD.indexAddrA Tryd.runUnderlying26 Tryd.sizeOf24 rfl rfl (by omega) (by omega)) rfl ?_))
      all_goals (first | (refine TE_s rfl rfl rfl rfl rfl ?_) | (refine TE_l rfl rfl ⟨_, rfl, rfl⟩ rfl (RD.load (i := 0) Tryd.isAgg24 rfl rfl (vec_get (by omega) (by omega))) rfl ?_))
      all_goals (first | (refine TE_s rfl rfl rfl rfl rfl ?_) | (refine TE_gq rfl rfl rfl rfl (RD.eql rfl rfl) rfl ?_))
      all_goals (first | (refine TE_q rfl rfl (RD.pickT rfl rfl) rfl ?_) | (refine TE_q rfl rfl (RD.pickF rfl rfl) rfl ?_))
      all_goals refine TE_nil0 ?_
      all_goals first
        | (
            refine pn_condT rfl ?_
            refine pn_seq ?_
            refine pn_plain [] rfl ?_
            refine TE_q rfl rfl (RD.build rfl bd_vec0) rfl ?_
            refine TE_put (i := 1) rfl Tryd.sizeOf26 trivial rfl rfl rfl rfl rfl rfl (.inl hb2) ?_
            refine TE_q rfl rfl (RD.assign rfl) rfl ?_
            refine TE_nil0 ?_
            refine pn_ret ?_
            exact pn_doneF rfl ⟨vecV fun _ => 0, _, b2, 0, rfl, rfl, load_agg (i := 1) Tryd.isAgg26 Tryd.sizeOf26 rfl (by first | (rw [size_putL]; exact Nat.le_of_ble_eq_true rfl) | exact Nat.le_of_ble_eq_true rfl) (put_vec _ _), _, _, rfl, rfl, rfl⟩ (.inr ⟨62, _, r, by simp only [vecD, hd, hcnt]; rw [if_pos ⟨by omega, by have h9 : ((l.getD (m - 1) 0 : Nat) : Int) = 0 := hc3; omega⟩], by decide, rfl, rfl, hq, by omega⟩) (fun w h => h.sub (.cons _ (List.sublist_cons_self _ _))) in_rsrc)
        | (
            refine pn_condF rfl ?_
            refine pn_skip ?_
            refine pn_seq ?_
            refine pn_plain [] rfl ?_
            refine TE_l rfl rfl trivial rfl (RD.loadA (v := vecV (vecOf l)) (i := 0) Tryd.isAgg26 Tryd.sizeOf26 rfl rfl (Nat.le_of_ble_eq_true rfl) (vec_all _)) rfl ?_
            refine TE_put (i := 1) rfl Tryd.sizeOf26 trivial rfl rfl rfl rfl rfl rfl (.inl hb2) ?_
            refine TE_q rfl rfl (RD.assign rfl) rfl ?_
            refine TE_nil0 ?_
            refine pn_ret ?_
            exact pn_doneF rfl ⟨vecV (vecOf l), _, b2, 0, rfl, rfl, load_agg (i := 1) Tryd.isAgg26 Tryd.sizeOf26 rfl (by first | (rw [size_putL]; exact Nat.le_of_ble_eq_true rfl) | exact Nat.le_of_ble_eq_true rfl) (put_vec _ _), _, _, rfl, rfl, rfl⟩ (.inl ⟨l, r, _, by simp only [vecD, hd, hcnt]; rw [if_neg]; rintro ⟨h0, hz⟩; first | (exact absurd h0 (by omega)) | (exact hc3 (show ((l.getD (m - 1) 0 : Nat) : Int) = 0 by omega)), rfl, rfl, hq, by omega⟩) (fun w h => h.sub (.cons _ (List.sublist_cons_self _ _))) in_rsrc)
        | (
            first | refine pn_condD rfl (fun hc3 => ?_) (fun hc3 => ?_) | refine pn_condN rfl (fun hc3 => ?_) (fun hc3 => ?_) | refine pn_cond rfl (fun hc3 => ?_) (fun hc3 => ?_)
            · refine pn_seq ?_
              refine pn_plain [] rfl ?_
              refine TE_q rfl rfl (RD.build rfl bd_vec0) rfl ?_
              refine TE_put (i := 1) rfl Tryd.sizeOf26 trivial rfl rfl rfl rfl rfl rfl (.inl hb2) ?_
              refine TE_q rfl rfl (RD.assign rfl) rfl ?_
              refine TE_nil0 ?_
              refine pn_ret ?_
              exact pn_doneF rfl ⟨vecV fun _ => 0, _, b2, 0, rfl, rfl, load_agg (i := 1) Tryd.isAgg26 Tryd.sizeOf26 rfl (by first | (rw [size_putL]; exact Nat.le_of_ble_eq_true rfl) | exact Nat.le_of_ble_eq_true rfl) (put_vec _ _), _, _, rfl, rfl, rfl⟩ (.inr ⟨62, _, r, by simp only [vecD, hd, hcnt]; rw [if_pos ⟨by omega, by have h9 : ((l.getD (m - 1) 0 : Nat) : Int) = 0 := hc3; omega⟩], by decide, rfl, rfl, hq, by omega⟩) (fun w h => h.sub (.cons _ (List.sublist_cons_self _ _))) in_rsrc
            · refine pn_skip ?_
              refine pn_seq ?_
              refine pn_plain [] rfl ?_
              refine TE_l rfl rfl trivial rfl (RD.loadA (v := vecV (vecOf l)) (i := 0) Tryd.isAgg26 Tryd.sizeOf26 rfl rfl (Nat.le_of_ble_eq_true rfl) (vec_all _)) rfl ?_
              refine TE_put (i := 1) rfl Tryd.sizeOf26 trivial rfl rfl rfl rfl rfl rfl (.inl hb2) ?_
              refine TE_q rfl rfl (RD.assign rfl) rfl ?_
              refine TE_nil0 ?_
              refine pn_ret ?_
              exact pn_doneF rfl ⟨vecV (vecOf l), _, b2, 0, rfl, rfl, load_agg (i := 1) Tryd.isAgg26 Tryd.sizeOf26 rfl (by first | (rw [size_putL]; exact Nat.le_of_ble_eq_true rfl) | exact Nat.le_of_ble_eq_true rfl) (put_vec _ _), _, _, rfl, rfl, rfl⟩ (.inl ⟨l, r, _, by simp only [vecD, hd, hcnt]; rw [if_neg]; rintro ⟨h0, hz⟩; first | (exact absurd h0 (by omega)) | (exact hc3 (show ((l.getD (m - 1) 0 : Nat) : Int) = 0 by omega)), rfl, rfl, hq, by omega⟩) (fun w h => h.sub (.cons _ (List.sublist_cons_self _ _))) in_rsrc)
  · refine TE_q rfl rfl (RD.move rfl) rfl ?_
    refine TE_q rfl rfl (RD.extract rfl rfl) rfl ?_
    refine TE_q rfl rfl (RD.extract rfl rfl) rfl ?_
    refine TE_q rfl rfl (RD.assign rfl) rfl ?_
    refine TE_q rfl rfl (RD.assign rfl) rfl ?_
    refine TE_nil0 ?_
    refine pn_seq ?_
    refine pn_seq ?_
    refine pn_plain [] rfl ?_
    refine TE_q rfl rfl (RD.move rfl) rfl ?_
    refine TE_q rfl rfl (RD.as (v := .bool true) (RD.neq rfl rfl) (by rw [decide_eq_false he]; rfl)) rfl ?_
    refine TE_nil0 ?_
    refine pn_condT rfl ?_
    refine pn_seq ?_
    refine pn_plain [] rfl ?_
    refine TE_q rfl rfl (RD.build rfl bd_vec0) rfl ?_
    refine TE_q rfl rfl (RD.move rfl) rfl ?_
    refine TE_put (i := 0) rfl Tryd.sizeOf26 trivial rfl rfl rfl rfl rfl rfl (.inl hb2) ?_
    refine TE_q rfl rfl (RD.assign rfl) rfl ?_
    refine TE_nil0 ?_
    refine pn_ret ?_
    exact pn_doneF rfl ⟨vecV fun _ => 0, _, b2, 0, rfl, rfl, load_agg (i := 0) Tryd.isAgg26 Tryd.sizeOf26 rfl (by first | (rw [size_putL]; exact Nat.le_of_ble_eq_true rfl) | exact Nat.le_of_ble_eq_true rfl) (put_agg rfl rfl rfl rfl), _, _, rfl, rfl, rfl⟩ (.inr ⟨e, _, r1, by simp only [vecD, hd], he, rfl, rfl, hq1, hl1⟩) (fun w h => h.sub (List.sublist_cons_self _ _)) in_rsrc

end Go.Proofs.YthagkkmbbncclaaDoor
