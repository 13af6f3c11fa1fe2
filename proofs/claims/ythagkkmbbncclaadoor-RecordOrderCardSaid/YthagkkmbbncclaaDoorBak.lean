import Derived.Test.YthagkkmbbncclaaDoorRdd
import Derived.Test.YthagkkmbbncclaaDoorAlv
namespace Go.Proofs.YthagkkmbbncclaaDoor
open Go Go.Mv
set_option maxRecDepth 8000
theorem brk1_len {s : ByteArray} (h : breaksN s = 0) : s.size ≤ 100 := by
  simp only [breaksN, List.find?_cons] at h
  cases hb : brk 1 s with
  | true => simp [hb] at h
  | false =>
    simp only [brk, decide_true, cond_true, pLong] at hb
    simp at hb
    omega
theorem recOk_len {r : Rec} (h : recOkB r = true) : r.ref.size ≤ 100 := by
  simp only [recOkB, Bool.and_eq_true, decide_eq_true_eq] at h
  exact brk1_len h.1.2
theorem recL_le {r : Rec} (h : recOkB r = true) (hc : VecOk r.ctx) : (recL r).length ≤ 2147484700 := by
  have h1 := recH_len h hc (by have := recOk_len h; omega)
  have h2 := tipL_len r.tip
  have h3 := lebL_len64 (n := 1) (by decide)
  have h4 := lebL_len64 (n := 0) (by decide)
  cases hh : r.has <;> simp only [recL, hh, cond_true, cond_false, List.length_append] <;> omega
theorem recL_pos (r : Rec) : 0 < (recL r).length := by
  have := dotL_pos r.s r.c
  simp only [recL, recH, List.length_append]; omega

set_option maxHeartbeats 4000000 in

theorem c_RecordBack (HA : Mem) (r : Rec) (v1 : Value) (b : List UInt8) (g : Obj) (w : World) (hr : RecOk r) (hb : Rdb ((0, g) :: HA) v1 b) (hblen : b.length ≤ 9223372036854775807) (hg : GOk g) (hH : Hp ((0, g) :: HA) w) : Calls Tryd.prog 5 #[recV r, v1] w (Ret w [] fun v H1 => v = .bool true ∧ H1 = []) := by
  refine fn_enter (args := [_, _]) Tryd.func5 rfl Tryd.ntmps5 rfl hH ?_
  refine pn_seq ?_
  refine pn_plain [] rfl ?_
  refine TE_box rfl rfl trivial rfl fun b2 hb2 => ?_
  refine TE_q rfl rfl (RD.assign rfl) rfl ?_
  refine TE_nil0 ?_
  refine pn_seq ?_
  refine pn_plain [] rfl ?_
  refine TE_call rfl rfl trivial Tryd.call8 rfl rfl rfl (fun w hs' => c_alive g w hg (hs'.hp.left.sub (.cons _ (.cons_cons _ (List.nil_sublist _))))) ?_
  rintro v16 H0 ⟨rfl, rfl⟩ -
  refine TE_q rfl rfl (RD.assign rfl) rfl ?_
  refine TE_nil0 ?_
  refine pn_seq ?_
  refine pn_seq ?_
  refine pn_cut (σ := Unit) (fun _ => [(29, .bool (decide (300 < r.ref.size ∨ 400 < b.length))), (5, .bool true), (2, .pointer (some ⟨b2, 0, none⟩)), (1, v1)]) (fun _ => (b2, .cells (recV r).cells 30 (0, 0)) :: (0, g) :: HA) (fun _ => True) ?_ ?_
  · refine pn_plain [2, 6] rfl ?_
    refine TE_q rfl rfl (RD.fieldAddr (o := 18) Tryd.runUnderlying30 rfl rfl Tryd.sizeOf9 rfl) rfl ?_
    refine TE_l rfl rfl trivial rfl (RD.load (i := 0) Tryd.isAgg9 rfl rfl rfl) rfl ?_
    refine TE_q rfl rfl (RD.len_string Tryd.runUnderlying9 rfl) rfl ?_
    refine TE_q rfl rfl (RD.gtr rfl rfl) rfl ?_
    refine TE_q rfl rfl (RD.move rfl) rfl ?_
    (first | refine TE_isT ?_ | refine TE_isF ?_ | refine TE_dec (fun h204 => ?_) (fun h204 => ?_) | refine TE_ndec (fun h204 => ?_) (fun h204 => ?_) | refine TE_bool (fun h204 => ?_) (fun h204 => ?_))
    all_goals (first | (refine TE_s rfl rfl rfl rfl rfl ?_) | (refine TE_gq rfl rfl rfl rfl (RD.move rfl) rfl ?_))
    all_goals (first | (refine TE_s rfl rfl rfl rfl rfl ?_) | (refine TE_gq rfl rfl rfl rfl (RD.lenR Tryd.runUnderlying35 rfl hb) rfl ?_))
    all_goals (first | (refine TE_s rfl rfl rfl rfl rfl ?_) | (refine TE_gq rfl rfl rfl rfl (RD.gtr rfl rfl) rfl ?_))
    all_goals (first | (refine TE_q rfl rfl (RD.pickT rfl rfl) rfl ?_) | (refine TE_q rfl rfl (RD.pickF rfl rfl) rfl ?_))
    all_goals refine TE_q rfl rfl (RD.move rfl) rfl ?_
    all_goals (first | refine TE_isT ?_ | refine TE_isF ?_ | refine TE_dec (fun h209 => ?_) (fun h209 => ?_) | refine TE_ndec (fun h209 => ?_) (fun h209 => ?_) | refine TE_bool (fun h209 => ?_) (fun h209 => ?_))
    all_goals (first | (refine TE_s rfl rfl rfl rfl rfl ?_) | (refine TE_gq rfl rfl rfl rfl (RD.move rfl) rfl ?_))
    all_goals (first | (refine TE_s rfl rfl rfl rfl rfl ?_) | (refine TE_gq rfl rfl rfl rfl (RD.not rfl) rfl ?_))
    all_goals (first | (refine TE_q rfl rfl (RD.pickT rfl rfl) rfl ?_) | (refine TE_q rfl rfl (RD.pickF rfl rfl) rfl ?_))
    all_goals refine TE_nil0 ?_
    all_goals ((try dsimp only at *); first | (have hF : (300 < r.ref.size ∨ 400 < b.length) := (by omega); exact pn_give () trivial ⟨by rw [decide_eq_true hF]; rfl, rfl, rfl, rfl, trivial⟩ (fun w h => h)) | (have hF : ¬ (300 < r.ref.size ∨ 400 < b.length) := (by omega); exact pn_give () trivial ⟨by rw [decide_eq_false hF]; rfl, rfl, rfl, rfl, trivial⟩ (fun w h => h)))
  rintro - -
  first | refine pn_condD rfl (fun hc0 => ?_) (fun hc0 => ?_) | refine pn_condN rfl (fun hc0 => ?_) (fun hc0 => ?_) | refine pn_cond rfl (fun hc0 => ?_) (fun hc0 => ?_)
  · refine pn_seq ?_
    refine pn_plain [] rfl ?_
    refine TE_q rfl rfl (RD.move rfl) rfl ?_
    refine TE_q rfl rfl (RD.assign rfl) rfl ?_
    refine TE_nil0 ?_
    refine pn_ret ?_
    exact pn_done rfl rfl ⟨rfl, rfl⟩ (List.nil_sublist _) (by simp)
  · refine pn_skip ?_
    refine pn_seq ?_
    refine pn_seq ?_
    refine pn_plain [] rfl ?_
    refine TE_l rfl rfl trivial rfl (RD.loadA (i := 0) Tryd.isAgg30 Tryd.sizeOf30 rfl rfl (Nat.le_of_ble_eq_true rfl) (rec_all _)) rfl ?_
    refine TE_call rfl rfl trivial Tryd.call15 rfl rfl rfl (fun w hs' => c_recEncode r g w hr hg (by omega) (hs'.hp.left.sub (.cons _ (.cons_cons _ (List.nil_sublist _))))) ?_
    rintro v33 H1 (⟨hok, x, rfl, hx⟩ | ⟨hok, rfl, rfl⟩) hX
    · obtain ⟨bx, capx, tlx, rfl, rfl⟩ := retB_some hx (recL_pos r); have hLr := recL_le hok hr.ctx; obtain ⟨q', hqb, hsame⟩ := recD_back hr hok (recOk_len hok) b
      refine TE_q rfl rfl (RD.move rfl) rfl ?_
      refine TE_q rfl rfl (RD.extract rfl rfl) rfl ?_
      refine TE_q rfl rfl (RD.extract rfl rfl) rfl ?_
      refine TE_q rfl rfl (RD.assign rfl) rfl ?_
      refine TE_q rfl rfl (RD.assign rfl) rfl ?_
      refine TE_nil0 ?_
      refine pn_seq ?_
      refine pn_plain [] rfl ?_
      refine TE_q rfl rfl (RD.move rfl) rfl ?_
      refine TE_q rfl rfl (RD.eql rfl rfl) rfl ?_
      refine TE_nil0 ?_
      refine pn_condT rfl ?_
      refine pn_seq ?_
      refine pn_plain [] rfl ?_
      refine TE_buildSlice0 rfl Tryd.runUnderlying35 Tryd.sizeOf5 trivial rfl fun bv hbv => ?_
      refine TE_q rfl rfl (RD.move rfl) rfl ?_
      refine TE_appendB (i := 0) (n := 0) (l := []) (tl := []) rfl rfl trivial rfl Tryd.underlying35 elByte rfl rfl rfl rfl rfl ⟨Nat.le_refl _, by decide, rfl⟩ (BytesIn.blk (i := 1) (tl := tlx) rfl) (by omega) (.inl hbv) ?_
      intro bq cap1 tl1 hk1 hq1
      refine TE_q rfl rfl (RD.move rfl) rfl ?_
      refine TE_appendB (i := 0) (n := 0 + (recL r).length) (l := [] ++ recL r) (tl := tl1) rfl rfl trivial rfl Tryd.underlying35 elByte rfl rfl rfl rfl (by simp) hk1 (hb.bytes.mono (fun w h => h.left.sub (.cons _ (.cons _ (.cons _ (List.Sublist.refl _)))))) (by omega) (hq1.elim (fun h => .inl (h ▸ hbv)) .inl) ?_
      intro bq2 cap2 tl2 hk2 hq2
      refine TE_call rfl rfl trivial Tryd.call14 rfl rfl rfl (fun w hs' => c_from [(bq2, .cells (bcells ([] ++ recL r ++ b) ++ tl2).toArray 5 (0, 0))] _ ([] ++ recL r ++ b) w (BytesIn.blk' (i := 0) (tl := tl2) rfl rfl (by simp)) (by simp only [List.length_append, List.length_nil]; omega) (hs'.hp.left.sub (.cons_cons _ (List.nil_sublist _)))) ?_
      rintro v43 H5 ⟨s, sv, H2, rfl, rfl, hsb⟩ hXs
      refine TE_q rfl rfl (RD.assign rfl) rfl ?_
      refine TE_nil0 ?_
      refine pn_seq ?_
      refine pn_perm ((b2, .cells (recV r).cells 30 (0, 0)) :: (0, g) :: (HA ++ srcM s sv H2)) (fun w h => (Hp.perm h List.perm_append_comm).sub (.cons _ (.cons _ (List.Sublist.refl _)))) ?_
      refine pn_plain [] rfl ?_
      refine TE_q rfl rfl (RD.move rfl) rfl ?_
      refine TE_callT ((b2, .cells (recV r).cells 30 (0, 0)) :: (0, g) :: HA) (srcM s sv H2) rfl rfl rfl trivial Tryd.call17 rfl rfl rfl (fun e he => .inl (hXs e he)) (fun w hs' => c_recDec H2 s sv _ g w hsb (by simp only [List.length_append, List.length_nil]; omega) hg (hs'.hp.left.sub (.cons _ (.cons_cons _ (List.sublist_append_right HA _))))) ?_
      rintro v46 H1 (⟨q, rr, v', hd, rfl, rfl, hq, hl⟩ | ⟨e, v', rr, hd, he, rfl, rfl, hq, hl⟩) hX7; rotate_left; (rw [List.nil_append, hqb] at hd; cases hd); rw [List.nil_append, hqb] at hd; obtain ⟨rfl, rfl⟩ := Dr.ok.inj hd
      refine TE_q rfl rfl (RD.move rfl) rfl ?_
      refine TE_q rfl rfl (RD.extract rfl rfl) rfl ?_
      refine TE_q rfl rfl (RD.extract rfl rfl) rfl ?_
      refine TE_alloc rfl Tryd.zeroValue30 trivial rfl fun b9 hb9 => ?_
      refine TE_put (i := 0) rfl Tryd.sizeOf30 trivial rfl rfl rfl rfl rfl rfl (.inl (by assumption)) ?_
      refine TE_q rfl rfl (RD.assign rfl) rfl ?_
      refine TE_nil0 ?_
      refine pn_seq ?_
      refine pn_plain [11] rfl ?_
      refine TE_q rfl rfl (RD.move rfl) rfl ?_
      refine TE_q rfl rfl (RD.neq rfl rfl) rfl ?_
      refine TE_q rfl rfl (RD.move rfl) rfl ?_
      refine TE_isF ?_
      first | (refine TE_s rfl rfl rfl rfl rfl ?_) | (refine TE_l rfl rfl ⟨_, rfl, rfl⟩ rfl (RD.loadA (v := recV q') (i := 0) Tryd.isAgg30 Tryd.sizeOf30 rfl rfl (by rw [size_putL]; exact Nat.le_of_ble_eq_true rfl) (put_agg rfl rfl rfl rfl)) rfl ?_)
      first | (refine TE_s rfl rfl rfl rfl rfl ?_) | (refine TE_l rfl rfl ⟨_, rfl, rfl⟩ rfl (RD.loadA (v := recV r) (i := 1) Tryd.isAgg30 Tryd.sizeOf30 rfl rfl (Nat.le_of_ble_eq_true rfl) (rec_all _)) rfl ?_)
      first | (refine TE_s rfl rfl rfl rfl rfl ?_) | (refine TE_gq rfl rfl rfl rfl (RD.as (v := .bool false) (RD.neq_agg Tryd.eqGuardType30 (eq_rec q' r) rfl rfl) (by rw [sameRB_iff.2 hsame]; rfl)) rfl ?_)
      first | (refine TE_q rfl rfl (RD.pickT rfl rfl) rfl ?_) | (refine TE_q rfl rfl (RD.pickF rfl rfl) rfl ?_)
      refine TE_q rfl rfl (RD.move rfl) rfl ?_
      refine TE_isF ?_
      first | (refine TE_s rfl rfl rfl rfl rfl ?_) | (refine TE_gq rfl rfl rfl rfl (RD.move rfl) rfl ?_)
      first | (refine TE_s rfl rfl rfl rfl rfl ?_) | ((refine TE_call rfl rfl ⟨_, rfl, rfl⟩ Tryd.call19 rfl rfl rfl (fun w hs' => c_left H2 s v' b w hq (hs'.hp.left.sub (.cons _ (.cons _ (.cons _ (List.sublist_append_right HA _)))))) ?_; rintro v58 H9 ⟨rfl, rfl⟩ -))
      first | (refine TE_s rfl rfl rfl rfl rfl ?_) | (refine TE_gq rfl rfl rfl rfl (RD.move rfl) rfl ?_)
      first | (refine TE_s rfl rfl rfl rfl rfl ?_) | (refine TE_gq rfl rfl rfl rfl (RD.lenR Tryd.runUnderlying35 rfl hb) rfl ?_)
      first | (refine TE_s rfl rfl rfl rfl rfl ?_) | (refine TE_gq rfl rfl rfl rfl (RD.as (v := .bool false) (RD.neq rfl rfl) (by simp)) rfl ?_)
      first | (refine TE_q rfl rfl (RD.pickT rfl rfl) rfl ?_) | (refine TE_q rfl rfl (RD.pickF rfl rfl) rfl ?_)
      refine TE_nil0 ?_
      refine pn_condF rfl ?_
      refine pn_skip ?_
      refine pn_seq ?_
      refine pn_perm ((b2, .cells (recV r).cells 30 (0, 0)) :: (0, g) :: HA) (fun w h => h.sub (.cons _ (.cons_cons _ (.cons_cons _ (List.sublist_append_left _ _))))) ?_
      refine pn_plain [] rfl ?_
      refine TE_q rfl rfl (RD.move rfl) rfl ?_
      refine TE_call rfl rfl trivial Tryd.call14 rfl rfl rfl (fun w hs' => c_from ((0, g) :: HA) v1 b w hb.bytes (by omega) (hs'.hp.left.sub (List.sublist_cons_self _ _))) ?_
      rintro v64 H1 ⟨s2, sv2, H3, rfl, rfl, hsb2⟩ hXs2
      refine TE_q rfl rfl (RD.assign rfl) rfl ?_
      refine TE_nil0 ?_
      refine pn_seq ?_
      refine pn_perm ((b2, .cells (recV r).cells 30 (0, 0)) :: (0, g) :: (HA ++ srcM s2 sv2 H3)) (fun w h => Hp.perm h List.perm_append_comm) ?_
      refine pn_plain [] rfl ?_
      refine TE_q rfl rfl (RD.move rfl) rfl ?_
      refine TE_callT ((b2, .cells (recV r).cells 30 (0, 0)) :: (0, g) :: HA) (srcM s2 sv2 H3) rfl rfl rfl trivial Tryd.call17 rfl rfl rfl (fun e he => .inl (hXs2 e he)) (fun w hs' => c_recDec H3 s2 sv2 b g w hsb2 (by omega) hg (hs'.hp.left.sub (.cons _ (.cons_cons _ (List.sublist_append_right HA _))))) ?_
      rintro v67 H1 (⟨q2, rr2, v2, hd2, rfl, rfl, hq2, hl2⟩ | ⟨e2, v2, rr2, hd2, he, rfl, rfl, hq2, hl2⟩) hX11
      · refine TE_q rfl rfl (RD.move rfl) rfl ?_
        refine TE_q rfl rfl (RD.extract rfl rfl) rfl ?_
        refine TE_q rfl rfl (RD.extract rfl rfl) rfl ?_
        refine TE_alloc rfl Tryd.zeroValue30 trivial rfl fun b12 hb12 => ?_
        refine TE_put (i := 0) rfl Tryd.sizeOf30 trivial rfl rfl rfl rfl rfl rfl (.inl (by assumption)) ?_
        refine TE_q rfl rfl (RD.assign rfl) rfl ?_
        refine TE_nil0 ?_
        refine pn_seq ?_
        refine pn_seq ?_
        refine pn_plain [] rfl ?_
        refine TE_q rfl rfl (RD.move rfl) rfl ?_
        refine TE_q rfl rfl (RD.neq rfl rfl) rfl ?_
        refine TE_nil0 ?_
        refine pn_condF rfl ?_
        refine pn_skip ?_
        refine pn_seq ?_
        refine pn_plain [] rfl ?_
        refine TE_l rfl rfl trivial rfl (RD.loadA (v := recV q2) (i := 0) Tryd.isAgg30 Tryd.sizeOf30 rfl rfl (by rw [size_putL]; exact Nat.le_of_ble_eq_true rfl) (put_agg rfl rfl rfl rfl)) rfl ?_
        obtain ⟨hbq, hqo, hqk, hql⟩ := recD_ok hd2; have hsub : Rdb ((0, g) :: HA) (subV 0 (b.length - rr2.length) v1) (b.take (b.length - rr2.length)) := (by have := hb.sub (Nat.zero_le (b.length - rr2.length)) (Nat.sub_le _ _); rw [List.drop_zero] at this; exact this); have htk : b.take (b.length - rr2.length) = recL q2 := (by rw [hbq, List.length_append, Nat.add_sub_cancel, List.take_left])
        refine TE_call rfl rfl trivial Tryd.call15 rfl rfl rfl (fun w hs' => c_recEncode q2 g w hqo hg (by omega) (hs'.hp.left.sub (.cons _ (.cons _ (.cons_cons _ (List.nil_sublist _)))))) ?_
        rintro v80 H1 (⟨hok2, x2, rfl, hx2⟩ | ⟨hok2, rfl, rfl⟩) hX14; rotate_left; (rw [hqk] at hok2; cases hok2); obtain ⟨by2, capy, tly, rfl, rfl⟩ := retB_some hx2 (recL_pos q2)
        refine TE_q rfl rfl (RD.move rfl) rfl ?_
        refine TE_q rfl rfl (RD.extract rfl rfl) rfl ?_
        refine TE_q rfl rfl (RD.extract rfl rfl) rfl ?_
        refine TE_q rfl rfl (RD.assign rfl) rfl ?_
        refine TE_q rfl rfl (RD.assign rfl) rfl ?_
        refine TE_nil0 ?_
        refine pn_seq ?_
        skip
        refine pn_drawT [7, 10, 15] [] [0, 1, 2, 3] [_, _, _, _] (HA ++ srcM s2 v2 H3) rfl rfl (by kernel_rfl) (by kernel_rfl) rfl rfl ?_
        refine TE_q rfl rfl (RD.move rfl) rfl ?_
        refine TE_q rfl rfl (RD.move rfl) rfl ?_
        refine TE_isT ?_
        first | (refine TE_s rfl rfl rfl rfl rfl ?_) | (refine TE_gq rfl rfl rfl rfl (RD.move rfl) rfl ?_)
        first | (refine TE_s rfl rfl rfl rfl rfl ?_) | (refine TE_gq rfl rfl rfl rfl (RD.eql rfl rfl) rfl ?_)
        first | (refine TE_q rfl rfl (RD.pickT rfl rfl) rfl ?_) | (refine TE_q rfl rfl (RD.pickF rfl rfl) rfl ?_)
        refine TE_q rfl rfl (RD.move rfl) rfl ?_
        refine TE_isT ?_
        first | (refine TE_s rfl rfl rfl rfl rfl ?_) | (refine TE_gq rfl rfl rfl rfl (RD.move rfl) rfl ?_)
        first | (refine TE_s rfl rfl rfl rfl rfl ?_) | (refine TE_gq rfl rfl rfl rfl (RD.str_of_bytes Tryd.underlying35 Tryd.underlying9 Tryd.underlying5 rfl (BytesIn.blk (i := 0) (tl := tly) rfl)) rfl ?_)
        first | (refine TE_s rfl rfl rfl rfl rfl ?_) | (refine TE_gq rfl rfl rfl rfl (RD.move rfl) rfl ?_)
        first | (refine TE_s rfl rfl rfl rfl rfl ?_) | (refine TE_gq rfl rfl rfl rfl (RD.move rfl) rfl ?_)
        first | (refine TE_s rfl rfl rfl rfl rfl ?_) | (refine TE_gq rfl rfl rfl rfl (RD.lenR Tryd.runUnderlying35 rfl hb) rfl ?_)
        first | (refine TE_s rfl rfl rfl rfl rfl ?_) | (refine TE_gq rfl rfl rfl rfl (RD.move rfl) rfl ?_)
        first | (refine TE_s rfl rfl rfl rfl rfl ?_) | ((refine TE_call rfl rfl ⟨_, rfl, rfl⟩ Tryd.call19 rfl rfl rfl (fun w hs' => c_left H3 s2 v2 rr2 w hq2 hs'.hp.right.right.right) ?_; rintro v95 H12 ⟨rfl, rfl⟩ -))
        first | (refine TE_s rfl rfl rfl rfl rfl ?_) | (refine TE_gq rfl rfl rfl rfl (RD.as (v := .int .i64 ((b.length - rr2.length : Nat) : Int)) (RD.subI rfl rfl (by omega) (by omega)) (by congr 1; omega)) rfl ?_)
        first | (refine TE_s rfl rfl rfl rfl rfl ?_) | (refine TE_gq rfl rfl rfl rfl (RD.sliceR (l := 0) (h := b.length - rr2.length) Tryd.runUnderlying35 Tryd.sizeOf5 rfl hb rfl ⟨_, rfl⟩ (Nat.zero_le _) (Nat.sub_le _ _)) rfl ?_)
        first | (refine TE_s rfl rfl rfl rfl rfl ?_) | (refine TE_gq rfl rfl rfl rfl (RD.str_of_bytes Tryd.underlying35 Tryd.underlying9 Tryd.underlying5 rfl (hsub.bytes.mono (fun w h => h.sub (.cons _ (.cons _ (.cons _ (.cons_cons _ (List.sublist_append_left _ _)))))))) rfl ?_)
        first | (refine TE_s rfl rfl rfl rfl rfl ?_) | (refine TE_gq rfl rfl rfl rfl (RD.as (v := .bool true) (RD.eql_string rfl rfl) (by rw [htk]; simp)) rfl ?_)
        first | (refine TE_q rfl rfl (RD.pickT rfl rfl) rfl ?_) | (refine TE_q rfl rfl (RD.pickF rfl rfl) rfl ?_)
        refine TE_q rfl rfl (RD.assign rfl) rfl ?_
        refine TE_nil ?_
        refine pn_ret ?_
        exact pn_done rfl rfl ⟨rfl, rfl⟩ (List.nil_sublist _) (by simp)
      · refine TE_q rfl rfl (RD.move rfl) rfl ?_
        refine TE_q rfl rfl (RD.extract rfl rfl) rfl ?_
        refine TE_q rfl rfl (RD.extract rfl rfl) rfl ?_
        refine TE_alloc rfl Tryd.zeroValue30 trivial rfl fun b12 hb12 => ?_
        refine TE_put (i := 0) rfl Tryd.sizeOf30 trivial rfl rfl rfl rfl rfl rfl (.inl (by assumption)) ?_
        refine TE_q rfl rfl (RD.assign rfl) rfl ?_
        refine TE_nil0 ?_
        refine pn_seq ?_
        refine pn_seq ?_
        refine pn_plain [] rfl ?_
        refine TE_q rfl rfl (RD.move rfl) rfl ?_
        refine TE_q rfl rfl (RD.as (v := .bool true) (RD.neq rfl rfl) (by rw [decide_eq_false he]; rfl)) rfl ?_
        refine TE_nil0 ?_
        refine pn_condT rfl ?_
        refine pn_seq ?_
        refine pn_plain [] rfl ?_
        refine TE_q rfl rfl (RD.move rfl) rfl ?_
        refine TE_q rfl rfl (RD.move rfl) rfl ?_
        refine TE_isT ?_
        first | (refine TE_s rfl rfl rfl rfl rfl ?_) | (refine TE_l rfl rfl ⟨_, rfl, rfl⟩ rfl (RD.loadA (v := recV zeroR) (i := 0) Tryd.isAgg30 Tryd.sizeOf30 rfl rfl (by rw [size_putL]; exact Nat.le_of_ble_eq_true rfl) (put_agg rfl rfl rfl rfl)) rfl ?_)
        first | (refine TE_s rfl rfl rfl rfl rfl ?_) | (refine TE_gq rfl rfl rfl rfl (RD.build rfl bd_rec0) rfl ?_)
        first | (refine TE_s rfl rfl rfl rfl rfl ?_) | (refine TE_gq rfl rfl rfl rfl (RD.as (v := .bool true) (RD.eql_agg Tryd.eqGuardType30 (eq_rec zeroR zeroR) rfl rfl) (by rw [sameRB_self])) rfl ?_)
        first | (refine TE_q rfl rfl (RD.pickT rfl rfl) rfl ?_) | (refine TE_q rfl rfl (RD.pickF rfl rfl) rfl ?_)
        refine TE_q rfl rfl (RD.assign rfl) rfl ?_
        refine TE_nil0 ?_
        refine pn_ret ?_
        exact pn_done rfl rfl ⟨rfl, rfl⟩ (List.nil_sublist _) (by simp)
    · refine TE_q rfl rfl (RD.move rfl) rfl ?_
      refine TE_q rfl rfl (RD.extract rfl rfl) rfl ?_
      refine TE_q rfl rfl (RD.extract rfl rfl) rfl ?_
      refine TE_q rfl rfl (RD.assign rfl) rfl ?_
      refine TE_q rfl rfl (RD.assign rfl) rfl ?_
      refine TE_nil0 ?_
      refine pn_seq ?_
      refine pn_plain [] rfl ?_
      refine TE_q rfl rfl (RD.move rfl) rfl ?_
      refine TE_q rfl rfl (RD.eql rfl rfl) rfl ?_
      refine TE_nil0 ?_
      refine pn_condF rfl ?_
      refine pn_skip ?_
      refine pn_seq ?_
      skip
      refine pn_plain [] rfl ?_
      refine TE_q rfl rfl (RD.move rfl) rfl ?_
      refine TE_call rfl rfl trivial Tryd.call14 rfl rfl rfl (fun w hs' => c_from ((0, g) :: HA) v1 b w hb.bytes (by omega) (hs'.hp.left.sub (List.sublist_cons_self _ _))) ?_
      rintro v64 H1 ⟨s2, sv2, H3, rfl, rfl, hsb2⟩ hXs2
      refine TE_q rfl rfl (RD.assign rfl) rfl ?_
      refine TE_nil0 ?_
      refine pn_seq ?_
      refine pn_perm ((b2, .cells (recV r).cells 30 (0, 0)) :: (0, g) :: (HA ++ srcM s2 sv2 H3)) (fun w h => Hp.perm h List.perm_append_comm) ?_
      refine pn_plain [] rfl ?_
      refine TE_q rfl rfl (RD.move rfl) rfl ?_
      refine TE_callT ((b2, .cells (recV r).cells 30 (0, 0)) :: (0, g) :: HA) (srcM s2 sv2 H3) rfl rfl rfl trivial Tryd.call17 rfl rfl rfl (fun e he => .inl (hXs2 e he)) (fun w hs' => c_recDec H3 s2 sv2 b g w hsb2 (by omega) hg (hs'.hp.left.sub (.cons _ (.cons_cons _ (List.sublist_append_right HA _))))) ?_
      rintro v67 H1 (⟨q2, rr2, v2, hd2, rfl, rfl, hq2, hl2⟩ | ⟨e2, v2, rr2, hd2, he, rfl, rfl, hq2, hl2⟩) hX11
      · refine TE_q rfl rfl (RD.move rfl) rfl ?_
        refine TE_q rfl rfl (RD.extract rfl rfl) rfl ?_
        refine TE_q rfl rfl (RD.extract rfl rfl) rfl ?_
        refine TE_alloc rfl Tryd.zeroValue30 trivial rfl fun b12 hb12 => ?_
        refine TE_put (i := 0) rfl Tryd.sizeOf30 trivial rfl rfl rfl rfl rfl rfl (.inl (by assumption)) ?_
        refine TE_q rfl rfl (RD.assign rfl) rfl ?_
        refine TE_nil0 ?_
        refine pn_seq ?_
        refine pn_seq ?_
        refine pn_plain [] rfl ?_
        refine TE_q rfl rfl (RD.move rfl) rfl ?_
        refine TE_q rfl rfl (RD.neq rfl rfl) rfl ?_
        refine TE_nil0 ?_
        refine pn_condF rfl ?_
        refine pn_skip ?_
        refine pn_seq ?_
        refine pn_plain [] rfl ?_
        refine TE_l rfl rfl trivial rfl (RD.loadA (v := recV q2) (i := 0) Tryd.isAgg30 Tryd.sizeOf30 rfl rfl (by rw [size_putL]; exact Nat.le_of_ble_eq_true rfl) (put_agg rfl rfl rfl rfl)) rfl ?_
        obtain ⟨hbq, hqo, hqk, hql⟩ := recD_ok hd2; have hsub : Rdb ((0, g) :: HA) (subV 0 (b.length - rr2.length) v1) (b.take (b.length - rr2.length)) := (by have := hb.sub (Nat.zero_le (b.length - rr2.length)) (Nat.sub_le _ _); rw [List.drop_zero] at this; exact this); have htk : b.take (b.length - rr2.length) = recL q2 := (by rw [hbq, List.length_append, Nat.add_sub_cancel, List.take_left])
        refine TE_call rfl rfl trivial Tryd.call15 rfl rfl rfl (fun w hs' => c_recEncode q2 g w hqo hg (by omega) (hs'.hp.left.sub (.cons _ (.cons _ (.cons_cons _ (List.nil_sublist _)))))) ?_
        rintro v80 H1 (⟨hok2, x2, rfl, hx2⟩ | ⟨hok2, rfl, rfl⟩) hX14; rotate_left; (rw [hqk] at hok2; cases hok2); obtain ⟨by2, capy, tly, rfl, rfl⟩ := retB_some hx2 (recL_pos q2)
        refine TE_q rfl rfl (RD.move rfl) rfl ?_
        refine TE_q rfl rfl (RD.extract rfl rfl) rfl ?_
        refine TE_q rfl rfl (RD.extract rfl rfl) rfl ?_
        refine TE_q rfl rfl (RD.assign rfl) rfl ?_
        refine TE_q rfl rfl (RD.assign rfl) rfl ?_
        refine TE_nil0 ?_
        refine pn_seq ?_
        skip
        refine pn_drawT [7, 10, 15] [] [0, 1, 2, 3] [_, _, _, _] (HA ++ srcM s2 v2 H3) rfl rfl (by kernel_rfl) (by kernel_rfl) rfl rfl ?_
        refine TE_q rfl rfl (RD.move rfl) rfl ?_
        refine TE_q rfl rfl (RD.move rfl) rfl ?_
        refine TE_isT ?_
        first | (refine TE_s rfl rfl rfl rfl rfl ?_) | (refine TE_gq rfl rfl rfl rfl (RD.move rfl) rfl ?_)
        first | (refine TE_s rfl rfl rfl rfl rfl ?_) | (refine TE_gq rfl rfl rfl rfl (RD.eql rfl rfl) rfl ?_)
        first | (refine TE_q rfl rfl (RD.pickT rfl rfl) rfl ?_) | (refine TE_q rfl rfl (RD.pickF rfl rfl) rfl ?_)
        refine TE_q rfl rfl (RD.move rfl) rfl ?_
        refine TE_isT ?_
        first | (refine TE_s rfl rfl rfl rfl rfl ?_) | (refine TE_gq rfl rfl rfl rfl (RD.move rfl) rfl ?_)
        first | (refine TE_s rfl rfl rfl rfl rfl ?_) | (refine TE_gq rfl rfl rfl rfl (RD.str_of_bytes Tryd.underlying35 Tryd.underlying9 Tryd.underlying5 rfl (BytesIn.blk (i := 0) (tl := tly) rfl)) rfl ?_)
        first | (refine TE_s rfl rfl rfl rfl rfl ?_) | (refine TE_gq rfl rfl rfl rfl (RD.move rfl) rfl ?_)
        first | (refine TE_s rfl rfl rfl rfl rfl ?_) | (refine TE_gq rfl rfl rfl rfl (RD.move rfl) rfl ?_)
        first | (refine TE_s rfl rfl rfl rfl rfl ?_) | (refine TE_gq rfl rfl rfl rfl (RD.lenR Tryd.runUnderlying35 rfl hb) rfl ?_)
        first | (refine TE_s rfl rfl rfl rfl rfl ?_) | (refine TE_gq rfl rfl rfl rfl (RD.move rfl) rfl ?_)
        first | (refine TE_s rfl rfl rfl rfl rfl ?_) | ((refine TE_call rfl rfl ⟨_, rfl, rfl⟩ Tryd.call19 rfl rfl rfl (fun w hs' => c_left H3 s2 v2 rr2 w hq2 hs'.hp.right.right.right) ?_; rintro v95 H12 ⟨rfl, rfl⟩ -))
        first | (refine TE_s rfl rfl rfl rfl rfl ?_) | (refine TE_gq rfl rfl rfl rfl (RD.as (v := .int .i64 ((b.length - rr2.length : Nat) : Int)) (RD.subI rfl rfl (by omega) (by omega)) (by congr 1; omega)) rfl ?_)
        first | (refine TE_s rfl rfl rfl rfl rfl ?_) | (refine TE_gq rfl rfl rfl rfl (RD.sliceR (l := 0) (h := b.length - rr2.length) Tryd.runUnderlying35 Tryd.sizeOf5 rfl hb rfl ⟨_, rfl⟩ (Nat.zero_le _) (Nat.sub_le _ _)) rfl ?_)
        first | (refine TE_s rfl rfl rfl rfl rfl ?_) | (refine TE_gq rfl rfl rfl rfl (RD.str_of_bytes Tryd.underlying35 Tryd.underlying9 Tryd.underlying5 rfl (hsub.bytes.mono (fun w h => h.sub (.cons _ (.cons _ (.cons _ (.cons_cons _ (List.sublist_append_left _ _)))))))) rfl ?_)
        first | (refine TE_s rfl rfl rfl rfl rfl ?_) | (refine TE_gq rfl rfl rfl rfl (RD.as (v := .bool true) (RD.eql_string rfl rfl) (by rw [htk]; simp)) rfl ?_)
        first | (refine TE_q rfl rfl (RD.pickT rfl rfl) rfl ?_) | (refine TE_q rfl rfl (RD.pickF rfl rfl) rfl ?_)
        refine TE_q rfl rfl (RD.assign rfl) rfl ?_
        refine TE_nil ?_
        refine pn_ret ?_
        exact pn_done rfl rfl ⟨rfl, rfl⟩ (List.nil_sublist _) (by simp)
      · refine TE_q rfl rfl (RD.move rfl) rfl ?_
        refine TE_q rfl rfl (RD.extract rfl rfl) rfl ?_
        refine TE_q rfl rfl (RD.extract rfl rfl) rfl ?_
        refine TE_alloc rfl Tryd.zeroValue30 trivial rfl fun b12 hb12 => ?_
        refine TE_put (i := 0) rfl Tryd.sizeOf30 trivial rfl rfl rfl rfl rfl rfl (.inl (by assumption)) ?_
        refine TE_q rfl rfl (RD.assign rfl) rfl ?_
        refine TE_nil0 ?_
        refine pn_seq ?_
        refine pn_seq ?_
        refine pn_plain [] rfl ?_
        refine TE_q rfl rfl (RD.move rfl) rfl ?_
        refine TE_q rfl rfl (RD.as (v := .bool true) (RD.neq rfl rfl) (by rw [decide_eq_false he]; rfl)) rfl ?_
        refine TE_nil0 ?_
        refine pn_condT rfl ?_
        refine pn_seq ?_
        refine pn_plain [] rfl ?_
        refine TE_q rfl rfl (RD.move rfl) rfl ?_
        refine TE_q rfl rfl (RD.move rfl) rfl ?_
        refine TE_isT ?_
        first | (refine TE_s rfl rfl rfl rfl rfl ?_) | (refine TE_l rfl rfl ⟨_, rfl, rfl⟩ rfl (RD.loadA (v := recV zeroR) (i := 0) Tryd.isAgg30 Tryd.sizeOf30 rfl rfl (by rw [size_putL]; exact Nat.le_of_ble_eq_true rfl) (put_agg rfl rfl rfl rfl)) rfl ?_)
        first | (refine TE_s rfl rfl rfl rfl rfl ?_) | (refine TE_gq rfl rfl rfl rfl (RD.build rfl bd_rec0) rfl ?_)
        first | (refine TE_s rfl rfl rfl rfl rfl ?_) | (refine TE_gq rfl rfl rfl rfl (RD.as (v := .bool true) (RD.eql_agg Tryd.eqGuardType30 (eq_rec zeroR zeroR) rfl rfl) (by rw [sameRB_self])) rfl ?_)
        first | (refine TE_q rfl rfl (RD.pickT rfl rfl) rfl ?_) | (refine TE_q rfl rfl (RD.pickF rfl rfl) rfl ?_)
        refine TE_q rfl rfl (RD.assign rfl) rfl ?_
        refine TE_nil0 ?_
        refine pn_ret ?_
        exact pn_done rfl rfl ⟨rfl, rfl⟩ (List.nil_sublist _) (by simp)

end Go.Proofs.YthagkkmbbncclaaDoor
