import Derived.Test.YthagkkmbbncclaaDoorR1
namespace Go.Proofs.YthagkkmbbncclaaDoor
open Go Go.Mv
set_option maxRecDepth 8000
theorem acc_doc {l r : List UInt8} {c : UInt8} (h : l = c :: r) : Value.int .u64 (IntKind.u64.wrap (IntKind.u64.wrap (128 * ((lowOf r % 18446744073709551616 : Nat) : Int)) + ((c.toNat % 128 : Nat) : Int))) = .int .u64 ((lowOf l % 18446744073709551616 : Nat) : Int) := by
  subst h
  simp only [u64_wrap, lowOf]
  congr 1
  omega
theorem drop_one {ys : List UInt8} {k j : Nat} (hk : k ≤ ys.length) (hj : j < k) : ∃ c, ys[j]? = some c ∧ (ys.take k).drop j = c :: (ys.take k).drop (j + 1) := by
  have hl : j < (ys.take k).length := by rw [List.length_take]; omega
  refine ⟨ys[j]'(by omega), List.getElem?_eq_getElem (by omega), ?_⟩
  rw [List.drop_eq_getElem_cons hl, List.getElem_take]

set_option maxHeartbeats 4000000 in

theorem c_rsNum (HX : Mem) (s most : Nat) (sv : Value) (ys : List UInt8) (w : World) (hb : Rdb HX sv ys) (hlen : ys.length ≤ 2199023255552) (hw : Hp (rsrcM s sv HX) w) : Calls Tryd.prog 45 #[.pointer (some ⟨s, 0, none⟩), .int .u64 (most : Int)] w (Ret w (keys (rsrcM s sv HX)) (RReads HX s (fun n : Nat => .int .u64 (n : Int)) (.int .u64 0) ys (numD most ys))) := by
  obtain ⟨a, c, rfl⟩ := hb.shape
  have hkw := where_le ys 0
  refine fn_enter (args := [_, _]) Tryd.func45 rfl Tryd.ntmps45 rfl hw ?_
  refine pn_seq ?_
  refine pn_plain [] rfl ?_
  refine TE_q rfl rfl (RD.assign rfl) rfl ?_
  refine TE_q rfl rfl (RD.assign rfl) rfl ?_
  refine TE_nil0 ?_
  refine pn_seq ?_
  refine pn_plain [] rfl ?_
  refine TE_q rfl rfl (RD.move rfl) rfl ?_
  refine TE_q rfl rfl (RD.nilCheckP rfl) rfl ?_
  refine TE_q rfl rfl (RD.fieldAddr (o := 0) Tryd.runUnderlying41 rfl rfl Tryd.sizeOf35 rfl) rfl ?_
  refine TE_l rfl rfl trivial rfl (RD.load (i := 0) Tryd.isAgg35 rfl rfl rfl) rfl ?_
  refine TE_call rfl rfl trivial Tryd.call73 rfl rfl rfl (fun w hs' => c_rWhere HX _ ys w hb (by omega) (hs'.hp.left.sub (List.sublist_cons_self _ _))) ?_
  rintro v13 H4 ⟨rfl, rfl⟩ -
  refine TE_q rfl rfl (RD.assign rfl) rfl ?_
  refine TE_nil0 ?_
  refine pn_seq ?_
  refine pn_seq ?_
  refine pn_cut (σ := Unit) (fun _ => [(23, .bool (decide (whereB ys 0 = 0 ∧ ys.length < 10))), (6, .int .i64 (whereB ys 0 : Nat)), (0, .pointer (some ⟨s, 0, none⟩)), (1, .int .u64 (most : Int))]) (fun _ => rsrcM s (.slice a ys.length c) HX) (fun _ => True) ?_ ?_
  · refine pn_plain [7] rfl ?_
    refine TE_q rfl rfl (RD.move rfl) rfl ?_
    refine TE_q rfl rfl (RD.eql rfl rfl) rfl ?_
    refine TE_q rfl rfl (RD.move rfl) rfl ?_
    (first | refine TE_isT ?_ | refine TE_isF ?_ | refine TE_dec (fun h202 => ?_) (fun h202 => ?_) | refine TE_ndec (fun h202 => ?_) (fun h202 => ?_) | refine TE_bool (fun h202 => ?_) (fun h202 => ?_))
    all_goals (first | (refine TE_s rfl rfl rfl rfl rfl ?_) | (refine TE_gq rfl rfl rfl rfl (RD.move rfl) rfl ?_))
    all_goals (first | (refine TE_s rfl rfl rfl rfl rfl ?_) | (refine TE_gq rfl rfl rfl rfl (RD.nilCheckP rfl) rfl ?_))
    all_goals (first | (refine TE_s rfl rfl rfl rfl rfl ?_) | (refine TE_gq rfl rfl rfl rfl (RD.fieldAddr (o := 0) Tryd.runUnderlying41 rfl rfl Tryd.sizeOf35 rfl) rfl ?_))
    all_goals (first | (refine TE_s rfl rfl rfl rfl rfl ?_) | (refine TE_l rfl rfl ⟨_, rfl, rfl⟩ rfl (RD.load (i := 0) Tryd.isAgg35 rfl rfl rfl) rfl ?_))
    all_goals (first | (refine TE_s rfl rfl rfl rfl rfl ?_) | (refine TE_gq rfl rfl rfl rfl (RD.lenR Tryd.runUnderlying35 rfl hb) rfl ?_))
    all_goals (first | (refine TE_s rfl rfl rfl rfl rfl ?_) | (refine TE_gq rfl rfl rfl rfl (RD.lss rfl rfl) rfl ?_))
    all_goals (first | (refine TE_q rfl rfl (RD.pickT rfl rfl) rfl ?_) | (refine TE_q rfl rfl (RD.pickF rfl rfl) rfl ?_))
    all_goals refine TE_nil0 ?_
    all_goals ((try dsimp only at *); first | (have hF : (whereB ys 0 = 0 ∧ ys.length < 10) := (by omega); exact pn_give () trivial ⟨by rw [decide_eq_true hF]; rfl, rfl, rfl, rfl, trivial⟩ (fun w h => h)) | (have hF : ¬ (whereB ys 0 = 0 ∧ ys.length < 10) := (by omega); exact pn_give () trivial ⟨by rw [decide_eq_false hF]; rfl, rfl, rfl, rfl, trivial⟩ (fun w h => h)) | (have hF : (whereB ys 0 = 0 ∧ ys.length < 10) ↔ (ys.length : Int) < 10 := (by omega); exact pn_give () trivial ⟨by rw [decide_eq_decide.2 hF]; rfl, rfl, rfl, rfl, trivial⟩ (fun w h => h)))
  rintro - -
  first | refine pn_condD rfl (fun hc0 => ?_) (fun hc0 => ?_) | refine pn_condN rfl (fun hc0 => ?_) (fun hc0 => ?_) | refine pn_cond rfl (fun hc0 => ?_) (fun hc0 => ?_)
  · refine pn_seq ?_
    refine pn_plain [] rfl ?_
    refine TE_q rfl rfl (RD.assign rfl) rfl ?_
    refine TE_q rfl rfl (RD.assign rfl) rfl ?_
    refine TE_nil0 ?_
    refine pn_ret ?_
    exact pn_doneF rfl ⟨_, _, rfl, rfl, _, _, rfl, rfl, rfl⟩ (.inr ⟨10, _, ys, nd_short hc0, by decide, rfl, rfl, hb, Nat.le_refl _⟩) (fun w h => h) in_rsrc
  · refine pn_skip ?_
    refine pn_seq ?_
    refine pn_seq ?_
    refine pn_cut (σ := Unit) (fun _ => [(29, .bool (decide (whereB ys 0 = 0 ∨ 10 < whereB ys 0))), (6, .int .i64 (whereB ys 0 : Nat)), (0, .pointer (some ⟨s, 0, none⟩)), (1, .int .u64 (most : Int))]) (fun _ => rsrcM s (.slice a ys.length c) HX) (fun _ => True) ?_ ?_
    · refine pn_plain [] rfl ?_
      refine TE_q rfl rfl (RD.move rfl) rfl ?_
      refine TE_q rfl rfl (RD.eql rfl rfl) rfl ?_
      refine TE_q rfl rfl (RD.move rfl) rfl ?_
      (first | refine TE_isT ?_ | refine TE_isF ?_ | refine TE_dec (fun h402 => ?_) (fun h402 => ?_) | refine TE_ndec (fun h402 => ?_) (fun h402 => ?_) | refine TE_bool (fun h402 => ?_) (fun h402 => ?_))
      all_goals (first | (refine TE_s rfl rfl rfl rfl rfl ?_) | (refine TE_gq rfl rfl rfl rfl (RD.move rfl) rfl ?_))
      all_goals (first | (refine TE_s rfl rfl rfl rfl rfl ?_) | (refine TE_gq rfl rfl rfl rfl (RD.gtr rfl rfl) rfl ?_))
      all_goals (first | (refine TE_q rfl rfl (RD.pickT rfl rfl) rfl ?_) | (refine TE_q rfl rfl (RD.pickF rfl rfl) rfl ?_))
      all_goals refine TE_nil0 ?_
      all_goals ((try dsimp only at *); first | (have hF : (whereB ys 0 = 0 ∨ 10 < whereB ys 0) := (by omega); exact pn_give () trivial ⟨by rw [decide_eq_true hF]; rfl, rfl, rfl, rfl, trivial⟩ (fun w h => h)) | (have hF : ¬ (whereB ys 0 = 0 ∨ 10 < whereB ys 0) := (by omega); exact pn_give () trivial ⟨by rw [decide_eq_false hF]; rfl, rfl, rfl, rfl, trivial⟩ (fun w h => h)) | (have hF : (whereB ys 0 = 0 ∨ 10 < whereB ys 0) ↔ (10 : Int) < (whereB ys 0 : Nat) := (by omega); exact pn_give () trivial ⟨by rw [decide_eq_decide.2 hF]; rfl, rfl, rfl, rfl, trivial⟩ (fun w h => h)))
    rintro - -
    first | refine pn_condD rfl (fun hc1 => ?_) (fun hc1 => ?_) | refine pn_condN rfl (fun hc1 => ?_) (fun hc1 => ?_) | refine pn_cond rfl (fun hc1 => ?_) (fun hc1 => ?_)
    · refine pn_seq ?_
      refine pn_plain [] rfl ?_
      refine TE_q rfl rfl (RD.assign rfl) rfl ?_
      refine TE_q rfl rfl (RD.assign rfl) rfl ?_
      refine TE_nil0 ?_
      refine pn_ret ?_
      exact pn_doneF rfl ⟨_, _, rfl, rfl, _, _, rfl, rfl, rfl⟩ (.inr ⟨11, _, ys, nd_form1 hc0 hc1, by decide, rfl, rfl, hb, Nat.le_refl _⟩) (fun w h => h) in_rsrc
    · refine pn_skip ?_
      refine pn_seq ?_
      refine pn_plain [] rfl ?_
      refine TE_q rfl rfl (RD.assign rfl) rfl ?_
      refine TE_nil0 ?_
      refine pn_seq ?_
      refine pn_seq ?_
      refine pn_plain [] rfl ?_
      refine TE_q rfl rfl (RD.move rfl) rfl ?_
      refine TE_q rfl rfl (RD.subI rfl rfl (by omega) (by omega)) rfl ?_
      refine TE_q rfl rfl (RD.assign rfl) rfl ?_
      refine TE_nil0 ?_
      refine pn_block ?_
      refine pn_loop (σ := Nat) (fun j => [(7, .int .u64 ((lowOf ((ys.take (whereB ys 0)).drop j) % 18446744073709551616 : Nat) : Int)), (8, .int .i64 ((j : Int) - 1)), (6, .int .i64 (whereB ys 0 : Nat)), (0, .pointer (some ⟨s, 0, none⟩)), (1, .int .u64 (most : Int))]) (fun _ => rsrcM s (.slice a ys.length c) HX) (fun j => j ≤ whereB ys 0) (fun j => j) (whereB ys 0) (Nat.le_refl _) ⟨by rw [List.drop_eq_nil_of_le (by rw [List.length_take]; omega)]; rfl, rfl, rfl, rfl, rfl, trivial⟩ (List.Sublist.refl _) ?_
      rintro j hj
      refine pn_seq ?_
      refine pn_seq ?_
      refine pn_plain [] rfl ?_
      refine TE_q rfl rfl (RD.move rfl) rfl ?_
      refine TE_q rfl rfl (RD.geq rfl rfl) rfl ?_
      refine TE_nil0 ?_
      first | refine pn_condD rfl (fun hc2 => ?_) (fun hc2 => ?_) | refine pn_condN rfl (fun hc2 => ?_) (fun hc2 => ?_) | refine pn_cond rfl (fun hc2 => ?_) (fun hc2 => ?_)
      · refine pn_skip ?_
        refine pn_seq ?_
        refine pn_block ?_
        refine pn_plain [10] rfl ?_
        refine TE_q rfl rfl (RD.move rfl) rfl ?_
        obtain ⟨i, rfl⟩ : ∃ i, j = i + 1 := ⟨j - 1, by omega⟩; obtain ⟨ch, hic, hdr⟩ := drop_one (ys := ys) (k := whereB ys 0) (j := i) (by omega) (by omega); obtain ⟨bb, off, cap, hsl, hcap, hcell'⟩ := hb.at hic; simp only [Value.slice.injEq] at hsl; obtain ⟨rfl, -, rfl⟩ := hsl; have hji : i = i + 1 - 1 := rfl; have hcell : ∀ w, Hp HX w → w.cell? ⟨bb, off + (((i + 1 : Nat) : Int) - 1).toNat * 1, none⟩ = some (bcell ch) := (by rw [show (((i + 1 : Nat) : Int) - 1).toNat * 1 = i from by omega]; exact hcell')
        refine TE_q rfl rfl (RD.mul rfl rfl) rfl ?_
        refine TE_q rfl rfl (RD.move rfl) rfl ?_
        refine TE_q rfl rfl (RD.nilCheckP rfl) rfl ?_
        refine TE_q rfl rfl (RD.fieldAddr (o := 0) Tryd.runUnderlying41 rfl rfl Tryd.sizeOf35 rfl) rfl ?_
        refine TE_l rfl rfl trivial rfl (RD.load (i := 0) Tryd.isAgg35 rfl rfl rfl) rfl ?_
        refine TE_q rfl rfl (RD.move rfl) rfl ?_
        refine TE_q rfl rfl (RD.indexAddrS Tryd.runUnderlying35 Tryd.sizeOf5 rfl rfl (by omega) (by omega)) rfl ?_
        refine TE_l rfl rfl trivial rfl (RD.loadC Tryd.isAgg5 rfl (fun w hw => hcell w (hw.left.sub (List.sublist_cons_self _ _)))) rfl ?_
        refine TE_q rfl rfl (RD.as (RD.rem rfl rfl (by decide)) (rem128 ch.toNat)) rfl ?_
        refine TE_q rfl rfl (RD.as (RD.conv Tryd.runUnderlying5 Tryd.runUnderlying74 rfl) (u64_len (by omega))) rfl ?_
        refine TE_q rfl rfl (RD.as (RD.add rfl rfl) (acc_doc hdr)) rfl ?_
        refine TE_q rfl rfl (RD.assign rfl) rfl ?_
        refine TE_nil0 ?_
        refine pn_plain [] rfl ?_
        refine TE_q rfl rfl (RD.move rfl) rfl ?_
        refine TE_q rfl rfl (RD.as (v := .int .i64 (((i : Nat) : Int) - 1)) (RD.subI rfl rfl (by omega) (by omega)) (by congr 1; omega)) rfl ?_
        refine TE_q rfl rfl (RD.assign rfl) rfl ?_
        refine TE_nil0 ?_
        (exact pn_again i (by omega) (Nat.lt_succ_self i) ⟨rfl, rfl, rfl, rfl, rfl, trivial⟩ (List.Sublist.refl _))
      · refine pn_exit ?_
        refine pn_seq ?_
        refine pn_seq ?_
        refine pn_drawT [6, 9] [] [0] [_] HX rfl rfl (by kernel_rfl) (by kernel_rfl) rfl rfl ?_
        refine TE_q rfl rfl (RD.move rfl) rfl ?_
        obtain rfl : j = 0 := (by omega); rw [List.drop_zero, show lowOf (ys.take (whereB ys 0)) % 18446744073709551616 = docM ys from rfl]
        refine TE_call rfl rfl trivial Tryd.call74 rfl rfl rfl (fun w hs' => c_rNum (docM ys) w (Nat.mod_lt _ (by decide))) ?_
        rintro v49 H1 hr hX1; obtain ⟨bn, capn, tln, rfl, rfl⟩ := retB_some hr (lebL_pos _)
        refine TE_l rfl rfl trivial rfl (RD.str_of_bytes Tryd.underlying35 Tryd.underlying9 Tryd.underlying5 rfl (BytesIn.blk (i := 0) (tl := tln) rfl)) rfl ?_
        refine TE_q rfl rfl (RD.move rfl) rfl ?_
        refine TE_q rfl rfl (RD.nilCheckP rfl) rfl ?_
        refine TE_q rfl rfl (RD.fieldAddr (o := 0) Tryd.runUnderlying41 rfl rfl Tryd.sizeOf35 rfl) rfl ?_
        refine TE_q rfl rfl (RD.load (i := 0) Tryd.isAgg35 rfl rfl rfl) rfl ?_
        refine TE_q rfl rfl (RD.move rfl) rfl ?_
        refine TE_q rfl rfl (RD.sliceR (l := 0) (h := whereB ys 0) Tryd.runUnderlying35 Tryd.sizeOf5 rfl hb rfl ⟨_, rfl⟩ (Nat.zero_le _) (by omega)) rfl ?_
        refine TE_q rfl rfl (RD.str_of_bytes Tryd.underlying35 Tryd.underlying9 Tryd.underlying5 rfl (BytesIn.mono (by have := hb.sub (Nat.zero_le (whereB ys 0)) (by omega); rw [List.drop_zero] at this; exact this.bytes) (fun w h => h.sub (List.sublist_cons_self _ _)))) rfl ?_
        refine TE_q rfl rfl (RD.as (v := .bool (!decide (lebL (docM ys) = ys.take (whereB ys 0)))) (RD.neq_string rfl rfl) (by congr 2; exact decide_eq_decide.2 bytes_ext)) rfl ?_
        refine TE_nil ?_
        first | refine pn_condD rfl (fun hc3 => ?_) (fun hc3 => ?_) | refine pn_condN rfl (fun hc3 => ?_) (fun hc3 => ?_) | refine pn_cond rfl (fun hc3 => ?_) (fun hc3 => ?_)
        · refine pn_seq ?_
          refine pn_plain [] rfl ?_
          refine TE_q rfl rfl (RD.assign rfl) rfl ?_
          refine TE_q rfl rfl (RD.assign rfl) rfl ?_
          refine TE_nil0 ?_
          refine pn_ret ?_
          exact pn_doneF rfl ⟨_, _, rfl, rfl, _, _, rfl, rfl, rfl⟩ (.inr ⟨11, _, ys, nd_form2 hc0 hc1 hc3, by decide, rfl, rfl, hb, Nat.le_refl _⟩) (fun w h => h.sub (List.sublist_cons_self _ _)) in_rsrc
        · refine pn_skip ?_
          refine pn_seq ?_
          refine pn_seq ?_
          skip
          refine pn_plain [] rfl ?_
          refine TE_q rfl rfl (RD.move rfl) rfl ?_
          refine TE_q rfl rfl (RD.move rfl) rfl ?_
          refine TE_q rfl rfl (RD.gtr rfl rfl) rfl ?_
          refine TE_nil0 ?_
          first | refine pn_condD rfl (fun hc4 => ?_) (fun hc4 => ?_) | refine pn_condN rfl (fun hc4 => ?_) (fun hc4 => ?_) | refine pn_cond rfl (fun hc4 => ?_) (fun hc4 => ?_)
          · refine pn_seq ?_
            refine pn_plain [] rfl ?_
            refine TE_q rfl rfl (RD.assign rfl) rfl ?_
            refine TE_q rfl rfl (RD.assign rfl) rfl ?_
            refine TE_nil0 ?_
            refine pn_ret ?_
            exact pn_doneF rfl ⟨_, _, rfl, rfl, _, _, rfl, rfl, rfl⟩ (.inr ⟨12, _, ys, nd_most hc0 hc1 hc3 (by omega), by decide, rfl, rfl, hb, Nat.le_refl _⟩) (fun w h => h.sub (List.sublist_cons_self _ _)) in_rsrc
          · refine pn_skip ?_
            refine pn_seq ?_
            refine pn_plain [] rfl ?_
            refine TE_q rfl rfl (RD.move rfl) rfl ?_
            obtain ⟨a2, c2, hs2⟩ := (hb.cut (l := whereB ys 0) (by omega)).shape
            refine TE_q rfl rfl (RD.move rfl) rfl ?_
            refine TE_q rfl rfl (RD.nilCheckP rfl) rfl ?_
            refine TE_q rfl rfl (RD.fieldAddr (o := 0) Tryd.runUnderlying41 rfl rfl Tryd.sizeOf35 rfl) rfl ?_
            refine TE_l rfl rfl trivial rfl (RD.load (i := 1) Tryd.isAgg35 rfl rfl rfl) rfl ?_
            refine TE_q rfl rfl (RD.move rfl) rfl ?_
            refine TE_q rfl rfl (RD.as (RD.sliceR (l := whereB ys 0) (h := ys.length) Tryd.runUnderlying35 Tryd.sizeOf5 rfl hb ⟨_, rfl⟩ rfl (by omega) (Nat.le_refl _)) hs2) rfl ?_
            refine TE_q rfl rfl (RD.nilCheckP rfl) rfl ?_
            refine TE_q rfl rfl (RD.fieldAddr (o := 0) Tryd.runUnderlying41 rfl rfl Tryd.sizeOf35 rfl) rfl ?_
            refine TE_store (i := 1) rfl Tryd.sizeOf35 trivial rfl rfl rfl rfl rfl rfl (.inr (by simp [rsrcM])) ?_
            refine TE_nil0 ?_
            refine pn_seq ?_
            refine pn_plain [] rfl ?_
            refine TE_q rfl rfl (RD.move rfl) rfl ?_
            refine TE_q rfl rfl (RD.assign rfl) rfl ?_
            refine TE_q rfl rfl (RD.assign rfl) rfl ?_
            refine TE_nil0 ?_
            refine pn_ret ?_
            exact pn_doneF rfl ⟨_, _, rfl, rfl, _, _, rfl, rfl, rfl⟩ (.inl ⟨docM ys, ys.drop (whereB ys 0), _, nd_ok hc0 hc1 hc3 (by omega), rfl, rfl, hs2 ▸ hb.cut (by omega), by simp⟩) (fun w h => h.sub (List.sublist_cons_self _ _)) in_rsrc

theorem c_rsRaw (HX : Mem) (s n : Nat) (sv : Value) (ys : List UInt8) (w : World) (hb : Rdb HX sv ys) (hlen : ys.length ≤ 2199023255552) (hw : Hp (rsrcM s sv HX) w) : Calls Tryd.prog 46 #[.pointer (some ⟨s, 0, none⟩), .int .i64 (n : Int)] w (Ret w (keys (rsrcM s sv HX)) (RReadsB HX s ys (rawD n ys))) := by
  refine fn_enter (args := [_, _]) Tryd.func46 rfl Tryd.ntmps46 rfl hw ?_
  refine pn_seq ?_
  refine pn_plain [] rfl ?_
  refine TE_q rfl rfl (RD.assign rfl) rfl ?_
  refine TE_q rfl rfl (RD.assign rfl) rfl ?_
  refine TE_nil0 ?_
  refine pn_seq ?_
  refine pn_seq ?_
  refine pn_plain [] rfl ?_
  refine TE_q rfl rfl (RD.move rfl) rfl ?_
  refine TE_q rfl rfl (RD.as (v := .bool false) (RD.lss rfl rfl) (by rw [decide_eq_false (by omega)])) rfl ?_
  refine TE_nil0 ?_
  refine pn_condF rfl ?_
  refine pn_skip ?_
  refine pn_seq ?_
  refine pn_seq ?_
  refine pn_plain [5] rfl ?_
  refine TE_q rfl rfl (RD.move rfl) rfl ?_
  refine TE_q rfl rfl (RD.move rfl) rfl ?_
  refine TE_q rfl rfl (RD.nilCheckP rfl) rfl ?_
  refine TE_q rfl rfl (RD.fieldAddr (o := 0) Tryd.runUnderlying41 rfl rfl Tryd.sizeOf35 rfl) rfl ?_
  refine TE_l rfl rfl trivial rfl (RD.load (i := 0) Tryd.isAgg35 rfl rfl rfl) rfl ?_
  refine TE_q rfl rfl (RD.lenR Tryd.runUnderlying35 rfl hb) rfl ?_
  refine TE_q rfl rfl (RD.gtr rfl rfl) rfl ?_
  refine TE_nil0 ?_
  first | refine pn_condD rfl (fun hc1 => ?_) (fun hc1 => ?_) | refine pn_condN rfl (fun hc1 => ?_) (fun hc1 => ?_) | refine pn_cond rfl (fun hc1 => ?_) (fun hc1 => ?_)
  · refine pn_seq ?_
    refine pn_plain [] rfl ?_
    refine TE_q rfl rfl (RD.assign rfl) rfl ?_
    refine TE_q rfl rfl (RD.assign rfl) rfl ?_
    refine TE_nil0 ?_
    refine pn_ret ?_
    exact pn_doneF rfl ⟨_, _, rfl, rfl, _, _, rfl, rfl, rfl⟩ (.inr ⟨10, sv, ys, by simp only [rawD]; rw [if_pos (by omega)], by decide, rfl, rfl, hb, Nat.le_refl _⟩) (fun w h => h) in_rsrc
  · refine pn_skip ?_
    refine pn_seq ?_
    refine pn_plain [] rfl ?_
    refine TE_q rfl rfl (RD.move rfl) rfl ?_
    have hle : n ≤ ys.length := (by omega); have hb2 := hb.cut hle; obtain ⟨a2, c2, hs2⟩ := hb2.shape; rw [hs2] at hb2
    refine TE_q rfl rfl (RD.nilCheckP rfl) rfl ?_
    refine TE_q rfl rfl (RD.fieldAddr (o := 0) Tryd.runUnderlying41 rfl rfl Tryd.sizeOf35 rfl) rfl ?_
    refine TE_l rfl rfl trivial rfl (RD.load (i := 0) Tryd.isAgg35 rfl rfl rfl) rfl ?_
    refine TE_q rfl rfl (RD.move rfl) rfl ?_
    refine TE_q rfl rfl (RD.sliceR (l := 0) (h := n) Tryd.runUnderlying35 Tryd.sizeOf5 rfl hb rfl ⟨_, rfl⟩ (Nat.zero_le _) hle) rfl ?_
    refine TE_call rfl rfl trivial Tryd.call13 rfl rfl rfl (fun w hs' => c_rTwin HX _ (ys.take n) w (by have := hb.sub (Nat.zero_le n) hle; rw [List.drop_zero] at this; exact this.bytes) (by rw [List.length_take]; omega) (hs'.hp.left.sub (List.sublist_cons_self _ _))) ?_
    rintro v22 H6 hr hX6
    refine TE_q rfl rfl (RD.assign rfl) rfl ?_
    refine TE_nil0 ?_
    refine pn_seq ?_
    refine pn_perm (rsrcM s sv HX ++ H6) (fun w h => h.perm List.perm_append_comm) ?_
    refine pn_plain [] rfl ?_
    refine TE_q rfl rfl (RD.move rfl) rfl ?_
    refine TE_q rfl rfl (RD.move rfl) rfl ?_
    refine TE_q rfl rfl (RD.nilCheckP rfl) rfl ?_
    refine TE_q rfl rfl (RD.fieldAddr (o := 0) Tryd.runUnderlying41 rfl rfl Tryd.sizeOf35 rfl) rfl ?_
    refine TE_l rfl rfl trivial rfl (RD.load (i := 0) Tryd.isAgg35 rfl rfl rfl) rfl ?_
    refine TE_q rfl rfl (RD.move rfl) rfl ?_
    refine TE_q rfl rfl (RD.as (RD.sliceR (l := n) (h := ys.length) Tryd.runUnderlying35 Tryd.sizeOf5 rfl hb ⟨_, rfl⟩ rfl hle (Nat.le_refl _)) hs2) rfl ?_
    refine TE_q rfl rfl (RD.nilCheckP rfl) rfl ?_
    refine TE_q rfl rfl (RD.fieldAddr (o := 0) Tryd.runUnderlying41 rfl rfl Tryd.sizeOf35 rfl) rfl ?_
    refine TE_store (i := 0) rfl Tryd.sizeOf35 trivial rfl rfl rfl rfl rfl rfl (.inr (by simp [rsrcM])) ?_
    refine TE_nil0 ?_
    refine pn_seq ?_
    refine pn_plain [] rfl ?_
    refine TE_q rfl rfl (RD.move rfl) rfl ?_
    refine TE_q rfl rfl (RD.assign rfl) rfl ?_
    refine TE_q rfl rfl (RD.assign rfl) rfl ?_
    refine TE_nil0 ?_
    refine pn_ret ?_
    exact pn_doneF rfl ⟨_, _, rfl, rfl, _, _, rfl, rfl, rfl⟩ (.inl ⟨_, _, _, _, H6, by simp only [rawD]; rw [if_neg (by omega)], rfl, hr, rfl, hb2, by simp⟩) (fun w h => Hp.perm (A := rsrcM s _ HX ++ H6) h List.perm_append_comm) (allA (Q := fun k => k ∈ keys (rsrcM s sv HX) ∨ _ ≤ k) (fun e he => .inr (hX6 e he)) in_rsrc)

set_option maxHeartbeats 2000000 in

theorem c_rsBytes (HX : Mem) (s most : Nat) (sv : Value) (ys : List UInt8) (w : World) (hb : Rdb HX sv ys) (hlen : ys.length ≤ 2199023255552) (hm : most ≤ 9223372036854775807) (hw : Hp (rsrcM s sv HX) w) : Calls Tryd.prog 44 #[.pointer (some ⟨s, 0, none⟩), .int .i64 (most : Int)] w (Ret w (keys (rsrcM s sv HX)) (RReadsB HX s ys (bytesD most ys))) := by
  obtain ⟨a, c, rfl⟩ := hb.shape
  refine fn_enter (args := [_, _]) Tryd.func44 rfl Tryd.ntmps44 rfl hw ?_
  refine pn_seq ?_
  refine pn_plain [] rfl ?_
  refine TE_q rfl rfl (RD.assign rfl) rfl ?_
  refine TE_q rfl rfl (RD.assign rfl) rfl ?_
  refine TE_nil0 ?_
  refine pn_seq ?_
  refine pn_plain [] rfl ?_
  refine TE_q rfl rfl (RD.move rfl) rfl ?_
  refine TE_q rfl rfl (RD.nilCheckP rfl) rfl ?_
  refine TE_q rfl rfl (RD.fieldAddr (o := 0) Tryd.runUnderlying41 rfl rfl Tryd.sizeOf35 rfl) rfl ?_
  refine TE_l rfl rfl trivial rfl (RD.load (i := 0) Tryd.isAgg35 rfl rfl rfl) rfl ?_
  refine TE_q rfl rfl (RD.assign rfl) rfl ?_
  refine TE_nil0 ?_
  refine pn_seq ?_
  refine pn_seq ?_
  refine pn_plain [] rfl ?_
  refine TE_q rfl rfl (RD.move rfl) rfl ?_
  refine TE_q rfl rfl (RD.as (v := .bool false) (RD.lss rfl rfl) (by rw [decide_eq_false (by omega)])) rfl ?_
  refine TE_nil0 ?_
  refine pn_condF rfl ?_
  refine pn_skip ?_
  refine pn_seq ?_
  refine pn_plain [2] rfl ?_
  refine TE_q rfl rfl (RD.move rfl) rfl ?_
  refine TE_q rfl rfl (RD.move rfl) rfl ?_
  refine TE_q rfl rfl (RD.as (RD.conv Tryd.runUnderlying3 Tryd.runUnderlying74 rfl) (u64_len (by omega))) rfl ?_
  refine TE_callT [] (rsrcM s (.slice a ys.length c) HX) rfl rfl rfl trivial Tryd.call45 rfl rfl rfl (fun e he => .inr (mem_keys.2 ⟨e, he, rfl⟩)) (fun w hs' => c_rsNum HX s most _ ys w hb hlen (hs'.hp.left.right (A := []))) ?_
  rintro v21 H3 (⟨k, r, v1, hd, rfl, rfl, hb1, hl1⟩ | ⟨e, v1, r, hd, he, rfl, rfl, hb1, hl1⟩) hX1
  · refine TE_q rfl rfl (RD.move rfl) rfl ?_
    refine TE_q rfl rfl (RD.extract rfl rfl) rfl ?_
    refine TE_q rfl rfl (RD.extract rfl rfl) rfl ?_
    refine TE_q rfl rfl (RD.assign rfl) rfl ?_
    refine TE_q rfl rfl (RD.assign rfl) rfl ?_
    refine TE_nil0 ?_
    refine pn_seq ?_
    refine pn_seq ?_
    refine pn_plain [] rfl ?_
    refine TE_q rfl rfl (RD.move rfl) rfl ?_
    refine TE_q rfl rfl (RD.neq rfl rfl) rfl ?_
    refine TE_nil0 ?_
    refine pn_condF rfl ?_
    refine pn_skip ?_
    refine pn_seq ?_
    refine pn_plain [2] rfl ?_
    refine TE_q rfl rfl (RD.move rfl) rfl ?_
    refine TE_q rfl rfl (RD.move rfl) rfl ?_
    have hk := (numD_ok hd).2.1
    refine TE_q rfl rfl (RD.as (v := .int .i64 (k : Int)) (RD.conv Tryd.runUnderlying74 Tryd.runUnderlying3 rfl) (by rw [wrap64_id (by omega) (by omega)])) rfl ?_
    refine TE_callT [] (rsrcM s v1 HX) rfl rfl rfl trivial Tryd.call46 rfl rfl rfl hX1 (fun w hs' => c_rsRaw HX s k v1 r w hb1 (by omega) (hs'.hp.left.right (A := []))) ?_
    rintro v31 H3 (⟨b, r2, v2, x, H2, hd2, rfl, hr2, rfl, hb2, hl2⟩ | ⟨e, v2, r2, hd2, he, rfl, rfl, hb2, hl2⟩) hX2
    · refine TE_q rfl rfl (RD.move rfl) rfl ?_
      refine TE_q rfl rfl (RD.extract rfl rfl) rfl ?_
      refine TE_q rfl rfl (RD.extract rfl rfl) rfl ?_
      refine TE_q rfl rfl (RD.assign rfl) rfl ?_
      refine TE_q rfl rfl (RD.assign rfl) rfl ?_
      refine TE_nil0 ?_
      refine pn_seq ?_
      refine pn_seq ?_
      refine pn_plain [] rfl ?_
      refine TE_q rfl rfl (RD.move rfl) rfl ?_
      refine TE_q rfl rfl (RD.neq rfl rfl) rfl ?_
      refine TE_nil0 ?_
      refine pn_condF rfl ?_
      refine pn_skip ?_
      refine pn_seq ?_
      refine pn_plain [] rfl ?_
      refine TE_q rfl rfl (RD.move rfl) rfl ?_
      refine TE_q rfl rfl (RD.move rfl) rfl ?_
      refine TE_q rfl rfl (RD.assign rfl) rfl ?_
      refine TE_q rfl rfl (RD.assign rfl) rfl ?_
      refine TE_nil0 ?_
      refine pn_ret ?_
      exact pn_doneF rfl ⟨_, _, rfl, rfl, _, _, rfl, rfl, rfl⟩ (.inl ⟨b, r2, v2, x, H2, by simp only [bytesD, hd, hd2], rfl, hr2, rfl, hb2, by omega⟩) (fun w h => h) (where_ hX2)
    · refine TE_q rfl rfl (RD.move rfl) rfl ?_
      refine TE_q rfl rfl (RD.extract rfl rfl) rfl ?_
      refine TE_q rfl rfl (RD.extract rfl rfl) rfl ?_
      refine TE_q rfl rfl (RD.assign rfl) rfl ?_
      refine TE_q rfl rfl (RD.assign rfl) rfl ?_
      refine TE_nil0 ?_
      refine pn_seq ?_
      refine pn_seq ?_
      refine pn_plain [] rfl ?_
      refine TE_q rfl rfl (RD.move rfl) rfl ?_
      refine TE_q rfl rfl (RD.as (v := .bool true) (RD.neq rfl rfl) (by rw [decide_eq_false he]; rfl)) rfl ?_
      refine TE_nil0 ?_
      refine pn_condT rfl ?_
      refine pn_plain [] rfl ?_
      refine TE_q rfl rfl (RD.move rfl) rfl ?_
      refine TE_q rfl rfl (RD.move rfl) rfl ?_
      refine TE_q rfl rfl (RD.nilCheckP rfl) rfl ?_
      refine TE_q rfl rfl (RD.fieldAddr (o := 0) Tryd.runUnderlying41 rfl rfl Tryd.sizeOf35 rfl) rfl ?_
      refine TE_store (i := 0) rfl Tryd.sizeOf35 trivial rfl rfl rfl rfl rfl rfl (.inr (by simp [rsrcM])) ?_
      refine TE_nil0 ?_
      refine pn_seq ?_
      refine pn_plain [] rfl ?_
      refine TE_q rfl rfl (RD.move rfl) rfl ?_
      refine TE_q rfl rfl (RD.move rfl) rfl ?_
      refine TE_q rfl rfl (RD.assign rfl) rfl ?_
      refine TE_q rfl rfl (RD.assign rfl) rfl ?_
      refine TE_nil0 ?_
      refine pn_ret ?_
      exact pn_doneF rfl ⟨_, _, rfl, rfl, _, _, rfl, rfl, rfl⟩ (.inr ⟨e, _, ys, by simp only [bytesD, hd, hd2], he, rfl, rfl, hb, Nat.le_refl _⟩) (fun w h => h) in_rsrc
  · refine TE_q rfl rfl (RD.move rfl) rfl ?_
    refine TE_q rfl rfl (RD.extract rfl rfl) rfl ?_
    refine TE_q rfl rfl (RD.extract rfl rfl) rfl ?_
    refine TE_q rfl rfl (RD.assign rfl) rfl ?_
    refine TE_q rfl rfl (RD.assign rfl) rfl ?_
    refine TE_nil0 ?_
    refine pn_seq ?_
    refine pn_seq ?_
    refine pn_plain [] rfl ?_
    refine TE_q rfl rfl (RD.move rfl) rfl ?_
    refine TE_q rfl rfl (RD.as (v := .bool true) (RD.neq rfl rfl) (by rw [decide_eq_false he]; rfl)) rfl ?_
    refine TE_nil0 ?_
    refine pn_condT rfl ?_
    refine pn_seq ?_
    refine pn_plain [] rfl ?_
    refine TE_q rfl rfl (RD.move rfl) rfl ?_
    refine TE_q rfl rfl (RD.assign rfl) rfl ?_
    refine TE_q rfl rfl (RD.assign rfl) rfl ?_
    refine TE_nil0 ?_
    refine pn_ret ?_
    exact pn_doneF rfl ⟨_, _, rfl, rfl, _, _, rfl, rfl, rfl⟩ (.inr ⟨e, _, r, by simp only [bytesD, hd], he, rfl, rfl, hb1, hl1⟩) (fun w h => h) in_rsrc

end Go.Proofs.YthagkkmbbncclaaDoor
