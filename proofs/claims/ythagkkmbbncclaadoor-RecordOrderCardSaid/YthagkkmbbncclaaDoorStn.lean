import Derived.Test.YthagkkmbbncclaaDoorRod
namespace Go.Proofs.YthagkkmbbncclaaDoor
open Go Go.Mv
set_option maxRecDepth 8000
theorem ord_strict {xs l : List Rec} (hp : xs.Perm l) (hs : xs.Pairwise fun x y => ¬ recCmp y x < 0) (ho : ordOk l = true) : xs.Pairwise fun x y => recCmp x y < 0 := by
  have hn : (xs.map dotK).Nodup := by
    simp only [ordOk, Bool.and_eq_true, decide_eq_true_eq] at ho
    exact (hp.map dotK).nodup_iff.2 ho.2
  rw [List.nodup_iff_pairwise_ne, List.pairwise_map] at hn
  exact hs.imp₂ (fun x y h1 h2 => recCmp_tot h1 (Ne.symm h2)) hn
theorem ord_same {xs ys l : List Rec} (h1 : xs.Perm l) (h2 : xs.Pairwise fun x y => ¬ recCmp y x < 0) (h3 : ys.Perm l) (h4 : ys.Pairwise fun x y => recCmp x y < 0) (ho : ordOk l = true) : xs = ys :=
  List.Perm.eq_of_pairwise (fun a _ _ _ ha hb => absurd (recCmp_tr _ _ _ ha hb) (recCmp_irr a)) (ord_strict h1 h2 ho) h4 (h1.trans h3.symm)
/-- What Order comes to, either way. -/
theorem ord_uni {l : List Rec} {v : Value} {H1 : Mem} (h : (∃ xs st, xs.Perm l ∧ xs.Pairwise (fun x y => ¬ recCmp y x < 0) ∧ ordOk l = true ∧ v = .tuple #[bldVx xs st, .int .i64 0] ∧ H1 = bldMx 30 recC xs st ∧ BldOk 52 recC xs st) ∨ (ordOk l = false ∧ v = .tuple #[.slice none 0 0, .int .i64 120] ∧ H1 = [])) :
    ∃ xs st, v = .tuple #[bldVx xs st, .int .i64 (err (ordOk l) 120)] ∧ H1 = bldMx 30 recC xs st ∧ BldOk 52 recC xs st ∧ (ordOk l = true → xs.Perm l ∧ xs.Pairwise (fun x y => ¬ recCmp y x < 0)) ∧ (ordOk l = false → xs = []) := by
  rcases h with ⟨xs, st, h1, h2, h3, rfl, rfl, h4⟩ | ⟨h, rfl, rfl⟩
  · exact ⟨xs, st, by rw [h3]; rfl, rfl, h4, fun _ => ⟨h1, h2⟩, fun h => (by rw [h3] at h; cases h)⟩
  · exact ⟨[], none, by rw [h]; rfl, rfl, rfl, fun h' => (by rw [h] at h'; cases h'), fun _ => rfl⟩
theorem ord_len {xs l : List Rec} (h1 : ordOk l = true → xs.Perm l ∧ xs.Pairwise (fun x y => ¬ recCmp y x < 0)) (h2 : ordOk l = false → xs = []) : xs.length ≤ l.length := by
  cases h : ordOk l with
  | true => rw [(h1 h).1.length_eq]; exact Nat.le_refl _
  | false => rw [h2 h]; exact Nat.zero_le _
theorem ord_both {xs ys l : List Rec} (h1 : ordOk l = true → xs.Perm l ∧ xs.Pairwise (fun x y => ¬ recCmp y x < 0)) (h2 : ordOk l = false → xs = []) (h3 : ordOk l = true → ys.Perm l ∧ ys.Pairwise (fun x y => ¬ recCmp y x < 0)) (h4 : ordOk l = false → ys = []) : xs = ys := by
  cases h : ordOk l with
  | true => exact ord_same (h1 h).1 (h1 h).2 (h3 h).1 (ord_strict (h3 h).1 (h3 h).2 h) h
  | false => rw [h2 h, h4 h]
theorem ord_weak {l : List Rec} {v : Value} {H1 : Mem} (h : (∃ ys st, ys.Perm l ∧ ys.Pairwise (fun x y => recCmp x y < 0) ∧ ordOk l = true ∧ v = .tuple #[bldVx ys st, .int .i64 0] ∧ H1 = bldMx 30 recC ys st ∧ BldOk 52 recC ys st) ∨ (ordOk l = false ∧ v = .tuple #[.slice none 0 0, .int .i64 120] ∧ H1 = [])) :
    (∃ xs st, xs.Perm l ∧ xs.Pairwise (fun x y => ¬ recCmp y x < 0) ∧ ordOk l = true ∧ v = .tuple #[bldVx xs st, .int .i64 0] ∧ H1 = bldMx 30 recC xs st ∧ BldOk 52 recC xs st) ∨ (ordOk l = false ∧ v = .tuple #[.slice none 0 0, .int .i64 120] ∧ H1 = []) := by
  rcases h with ⟨xs, st, h1, h2, h3⟩ | h
  · exact .inl ⟨xs, st, h1, h2.imp fun h h' => recCmp_irr _ (recCmp_tr _ _ _ h h'), h3⟩
  · exact .inr h

set_option maxHeartbeats 4000000 in

theorem c_RecordStands (HA : Mem) (a b : Rec) (v : Value) (l : List Rec) (g : Obj) (w : World) (ha : RecOk a) (hb : RecOk b) (hl : Rdx 52 recC ((0, g) :: HA) v l) (hok : ∀ r ∈ l, RecOk r) (hlen : l.length ≤ 9223372036854775807) (hg : GOk g) (hH : Hp ((0, g) :: HA) w) : Calls Tryd.prog 6 #[recV a, recV b, v] w (Ret w [] fun v H1 => v = .bool true ∧ H1 = []) := by
  refine fn_enter (args := [_, _, _]) Tryd.func6 rfl Tryd.ntmps6 rfl hH ?_
  refine pn_seq ?_
  refine pn_plain [] rfl ?_
  refine TE_box rfl rfl trivial rfl fun b3 hb3 => ?_
  refine TE_box rfl rfl trivial rfl fun b4 hb4 => ?_
  refine TE_q rfl rfl (RD.assign rfl) rfl ?_
  refine TE_nil0 ?_
  refine pn_seq ?_
  refine pn_seq ?_
  refine pn_cut (σ := Unit) (fun _ => [(29, .bool (decide (30 < l.length ∨ 300 < a.ref.size ∨ 300 < b.ref.size))), (3, .pointer (some ⟨b3, 0, none⟩)), (4, .pointer (some ⟨b4, 0, none⟩)), (2, v)]) (fun _ => (b4, .cells (recV b).cells 30 (0, 0)) :: (b3, .cells (recV a).cells 30 (0, 0)) :: (0, g) :: HA) (fun _ => True) ?_ ?_
  · refine pn_plain [1, 6, 12] rfl ?_
    refine TE_q rfl rfl (RD.move rfl) rfl ?_
    refine TE_q rfl rfl (RD.lenX Tryd.runUnderlying53 rfl hl) rfl ?_
    refine TE_q rfl rfl (RD.gtr rfl rfl) rfl ?_
    refine TE_q rfl rfl (RD.move rfl) rfl ?_
    (first | refine TE_isT ?_ | refine TE_isF ?_ | refine TE_dec (fun h103 => ?_) (fun h103 => ?_) | refine TE_ndec (fun h103 => ?_) (fun h103 => ?_) | refine TE_bool (fun h103 => ?_) (fun h103 => ?_))
    all_goals (first | (refine TE_s rfl rfl rfl rfl rfl ?_) | (refine TE_gq rfl rfl rfl rfl (RD.fieldAddr (o := 18) Tryd.runUnderlying30 rfl rfl Tryd.sizeOf9 rfl) rfl ?_))
    all_goals (first | (refine TE_s rfl rfl rfl rfl rfl ?_) | (refine TE_l rfl rfl ⟨_, rfl, rfl⟩ rfl (RD.load (i := 1) Tryd.isAgg9 rfl rfl rfl) rfl ?_))
    all_goals (first | (refine TE_s rfl rfl rfl rfl rfl ?_) | (refine TE_gq rfl rfl rfl rfl (RD.len_string Tryd.runUnderlying9 rfl) rfl ?_))
    all_goals (first | (refine TE_s rfl rfl rfl rfl rfl ?_) | (refine TE_gq rfl rfl rfl rfl (RD.gtr rfl rfl) rfl ?_))
    all_goals (first | (refine TE_q rfl rfl (RD.pickT rfl rfl) rfl ?_) | (refine TE_q rfl rfl (RD.pickF rfl rfl) rfl ?_))
    all_goals refine TE_q rfl rfl (RD.move rfl) rfl ?_
    all_goals (first | refine TE_isT ?_ | refine TE_isF ?_ | refine TE_dec (fun h109 => ?_) (fun h109 => ?_) | refine TE_ndec (fun h109 => ?_) (fun h109 => ?_) | refine TE_bool (fun h109 => ?_) (fun h109 => ?_))
    all_goals (first | (refine TE_s rfl rfl rfl rfl rfl ?_) | (refine TE_gq rfl rfl rfl rfl (RD.fieldAddr (o := 18) Tryd.runUnderlying30 rfl rfl Tryd.sizeOf9 rfl) rfl ?_))
    all_goals (first | (refine TE_s rfl rfl rfl rfl rfl ?_) | (refine TE_l rfl rfl ⟨_, rfl, rfl⟩ rfl (RD.load (i := 0) Tryd.isAgg9 rfl rfl rfl) rfl ?_))
    all_goals (first | (refine TE_s rfl rfl rfl rfl rfl ?_) | (refine TE_gq rfl rfl rfl rfl (RD.len_string Tryd.runUnderlying9 rfl) rfl ?_))
    all_goals (first | (refine TE_s rfl rfl rfl rfl rfl ?_) | (refine TE_gq rfl rfl rfl rfl (RD.gtr rfl rfl) rfl ?_))
    all_goals (first | (refine TE_q rfl rfl (RD.pickT rfl rfl) rfl ?_) | (refine TE_q rfl rfl (RD.pickF rfl rfl) rfl ?_))
    all_goals refine TE_nil0 ?_
    all_goals (first | (have hF : (30 < l.length ∨ 300 < a.ref.size ∨ 300 < b.ref.size) := (by omega); exact pn_give () trivial ⟨by rw [decide_eq_true hF]; rfl, rfl, rfl, rfl, trivial⟩ (fun _ h => h)) | (have hF : ¬ (30 < l.length ∨ 300 < a.ref.size ∨ 300 < b.ref.size) := (by omega); exact pn_give () trivial ⟨by rw [decide_eq_false hF]; rfl, rfl, rfl, rfl, trivial⟩ (fun _ h => h)) | (have hF : (30 < l.length ∨ 300 < a.ref.size ∨ 300 < b.ref.size) ↔ (300 : Int) < (b.ref.size : Int) := (by omega); exact pn_give () trivial ⟨by rw [decide_eq_decide.2 hF]; rfl, rfl, rfl, rfl, trivial⟩ (fun _ h => h)))
  rintro - -
  first | refine pn_condD rfl (fun hc0 => ?_) (fun hc0 => ?_) | refine pn_condN rfl (fun hc0 => ?_) (fun hc0 => ?_) | refine pn_cond rfl (fun hc0 => ?_) (fun hc0 => ?_)
  · refine pn_seq ?_
    refine pn_plain [] rfl ?_
    refine TE_q rfl rfl (RD.assign rfl) rfl ?_
    refine TE_nil0 ?_
    refine pn_ret ?_
    exact pn_done rfl rfl ⟨rfl, rfl⟩ (List.nil_sublist _) (by simp)
  · refine pn_skip ?_
    refine pn_seq ?_
    refine pn_seq ?_
    refine pn_plain [1] rfl ?_
    refine TE_q rfl rfl (RD.move rfl) rfl ?_
    refine TE_q rfl rfl (RD.lenX Tryd.runUnderlying53 rfl hl) rfl ?_
    have hl30 : l.length ≤ 30 := (by omega)
    refine TE_q rfl rfl (RD.move rfl) rfl ?_
    refine TE_nil0 ?_
    refine pn_block ?_
    refine pn_loop (σ := Nat) (fun i => [(32, .int .i64 (i : Int)), (31, .int .i64 l.length), (3, .pointer (some ⟨b3, 0, none⟩)), (4, .pointer (some ⟨b4, 0, none⟩)), (2, v)]) (fun _ => (b4, .cells (recV b).cells 30 (0, 0)) :: (b3, .cells (recV a).cells 30 (0, 0)) :: (0, g) :: HA) (fun i => i ≤ l.length ∧ ∀ (j : Nat) (x : Rec), l[j]? = some x → j < i → x.ref.size ≤ 300) (fun i => l.length - i) 0 ⟨Nat.zero_le _, fun _ _ _ h => absurd h (by omega)⟩ ⟨rfl, rfl, rfl, rfl, rfl, trivial⟩ (List.Sublist.refl _) ?_
    rintro i ⟨hi, hall⟩
    refine pn_seq ?_
    refine pn_plain [] rfl ?_
    refine TE_q rfl rfl (RD.lss rfl rfl) rfl ?_
    refine TE_nil0 ?_
    refine pn_seq ?_
    first | refine pn_condD rfl (fun hc1 => ?_) (fun hc1 => ?_) | refine pn_condN rfl (fun hc1 => ?_) (fun hc1 => ?_) | refine pn_cond rfl (fun hc1 => ?_) (fun hc1 => ?_)
    · refine pn_skip ?_
      refine pn_seq ?_
      refine pn_block ?_
      refine pn_seq ?_
      refine pn_plain [] rfl ?_
      refine TE_q rfl rfl (RD.move rfl) rfl ?_
      refine TE_q rfl rfl (RD.assign rfl) rfl ?_
      refine TE_nil0 ?_
      refine pn_seq ?_
      have hlt : i < l.length := (by omega); have hq9 : ∃ x, l[i]? = some x := ⟨_, List.getElem?_eq_getElem hlt⟩; obtain ⟨x, hx⟩ := hq9; have hq9 := hl.at hx; obtain ⟨bb, off, cap, hv, hcap, hcell⟩ := hq9
      refine pn_plain [5] rfl ?_
      refine TE_q rfl rfl (RD.move rfl) rfl ?_
      refine TE_q rfl rfl (RD.move rfl) rfl ?_
      refine TE_q rfl rfl (RD.indexX (i := i) Tryd.runUnderlying53 Tryd.sizeOf30 (congrArg some hv) rfl rfl hlt) rfl ?_
      refine TE_q rfl rfl (RD.fieldAddr (o := off + i * 52 + 18) Tryd.runUnderlying30 rfl rfl Tryd.sizeOf9 rfl) rfl ?_
      refine TE_l rfl rfl trivial rfl (RD.loadC Tryd.isAgg9 rfl (fun w hw => hcell w (hw.sp (fun a => by simp -failIfUnchanged <;> omega)) 18 _ rfl)) rfl ?_
      refine TE_q rfl rfl (RD.len_string Tryd.runUnderlying9 rfl) rfl ?_
      refine TE_q rfl rfl (RD.gtr rfl rfl) rfl ?_
      refine TE_nil0 ?_
      first | refine pn_condD rfl (fun hc2 => ?_) (fun hc2 => ?_) | refine pn_condN rfl (fun hc2 => ?_) (fun hc2 => ?_) | refine pn_cond rfl (fun hc2 => ?_) (fun hc2 => ?_)
      · refine pn_seq ?_
        refine pn_plain [] rfl ?_
        refine TE_q rfl rfl (RD.assign rfl) rfl ?_
        refine TE_nil0 ?_
        refine pn_ret ?_
        exact pn_done rfl rfl ⟨rfl, rfl⟩ (List.nil_sublist _) (by simp)
      · refine pn_skip ?_
        refine pn_plain [] rfl ?_
        refine TE_q rfl rfl (RD.addI rfl rfl (by omega) (by omega)) rfl ?_
        refine TE_q rfl rfl (RD.move rfl) rfl ?_
        refine TE_nil0 ?_
        (exact pn_again (i + 1) ⟨by omega, fun j x' hx' h => by rcases Nat.lt_succ_iff_lt_or_eq.1 h with h | rfl; exact hall j x' hx' h; rw [hx] at hx'; cases hx'; omega⟩ (by show l.length - (i + 1) < l.length - i; omega) ⟨rfl, rfl, rfl, rfl, rfl, trivial⟩ (List.Sublist.refl _))
    · refine pn_exit ?_
      refine pn_seq ?_
      refine pn_plain [] rfl ?_
      refine TE_buildSlice0 rfl Tryd.runUnderlying53 Tryd.sizeOf30 trivial rfl fun b43 hb43 => ?_
      refine TE_q rfl rfl (RD.move rfl) rfl ?_
      refine TE_appendX (st := some (b43, 0, [])) (l := []) (ys := l) ((b4, .cells (recV b).cells 30 (0, 0)) :: (b3, .cells (recV a).cells 30 (0, 0)) :: (0, g) :: HA) recC_len recC_one rfl rfl rfl rfl trivial rfl Tryd.underlying53 elRec rfl rfl rfl ⟨Nat.le_refl _, by decide, rfl⟩ hl (fun _ hw => hw.sp (fun a => by simp -failIfUnchanged <;> omega)) (by simp; omega) rfl (bldx_all (fun k => w.heap.size ≤ k ∨ k ∈ []) (by rintro b cap tl ⟨⟩; exact .inl hb43)) ?_
      intro st0 hbo0 hX0 _
      refine TE_q rfl rfl (RD.assign rfl) rfl ?_
      have hsz : ∀ r ∈ l, r.ref.size < 4294967281 := (fun r hr => by obtain ⟨j, hj⟩ := List.mem_iff_getElem?.1 hr; have := hall j r hj (by have := (List.getElem?_eq_some_iff.1 hj).1; omega); omega)
      refine TE_nil0 ?_
      refine pn_seq ?_
      refine pn_sp ((b4, .cells (recV b).cells 30 (0, 0)) :: (b3, .cells (recV a).cells 30 (0, 0)) :: (0, g) :: (bldMx 30 recC l st0 ++ HA)) (fun a => by simp -failIfUnchanged <;> omega) ?_
      refine pn_plain [] rfl ?_
      refine TE_q rfl rfl (RD.move rfl) rfl ?_
      refine TE_call rfl rfl trivial Tryd.call21 rfl rfl rfl (fun w hs' => c_order (bldMx 30 recC l st0 ++ HA) _ l g w ((hbo0.rdx (u := 30) recC_len).mono (fun _ hw => hw.sp (fun a => by simp -failIfUnchanged <;> omega))) hok hsz (by omega) hg (hs'.hp.sp (fun a => by simp -failIfUnchanged <;> omega))) ?_
      rintro v48 H1 hpo hX1; obtain ⟨xs, st1, rfl, rfl, hbo1, hx1, hx2⟩ := ord_uni hpo
      refine TE_q rfl rfl (RD.move rfl) rfl ?_
      refine TE_q rfl rfl (RD.extract rfl rfl) rfl ?_
      refine TE_q rfl rfl (RD.extract rfl rfl) rfl ?_
      refine TE_q rfl rfl (RD.assign rfl) rfl ?_
      refine TE_q rfl rfl (RD.assign rfl) rfl ?_
      refine TE_nil0 ?_
      refine pn_seq ?_
      refine pn_sp ((b4, .cells (recV b).cells 30 (0, 0)) :: (b3, .cells (recV a).cells 30 (0, 0)) :: (0, g) :: (bldMx 30 recC xs st1 ++ (bldMx 30 recC l st0 ++ HA))) (fun a => by simp -failIfUnchanged <;> omega) ?_
      refine pn_plain [] rfl ?_
      refine TE_q rfl rfl (RD.move rfl) rfl ?_
      refine TE_call rfl rfl trivial Tryd.call22 rfl rfl rfl (fun w hs' => c_r12Order ((0, g) :: HA) v l w hl hok (by omega) (hs'.hp.sp (fun a => by simp -failIfUnchanged <;> omega))) ?_
      rintro v53 H1 hpr hX2; obtain ⟨ys, st2, rfl, rfl, hbo2, hy1, hy2⟩ := ord_uni (ord_weak hpr); obtain rfl := ord_both hx1 hx2 hy1 hy2; have hxl := ord_len hx1 hx2
      refine TE_q rfl rfl (RD.move rfl) rfl ?_
      refine TE_q rfl rfl (RD.extract rfl rfl) rfl ?_
      refine TE_q rfl rfl (RD.extract rfl rfl) rfl ?_
      refine TE_q rfl rfl (RD.assign rfl) rfl ?_
      refine TE_q rfl rfl (RD.assign rfl) rfl ?_
      refine TE_nil0 ?_
      refine pn_seq ?_
      refine pn_sp ((b4, .cells (recV b).cells 30 (0, 0)) :: (b3, .cells (recV a).cells 30 (0, 0)) :: (0, g) :: (bldMx 30 recC xs st2 ++ (bldMx 30 recC xs st1 ++ (bldMx 30 recC l st0 ++ HA)))) (fun a => by simp -failIfUnchanged <;> omega) ?_
      refine pn_drawT [9, 10, 12, 13, 18, 19, 21, 22, 27, 28, 30, 31] [] [0, 1, 2] [_, _, _] (bldMx 30 recC xs st2 ++ (bldMx 30 recC xs st1 ++ (bldMx 30 recC l st0 ++ HA))) rfl rfl (by kernel_rfl) (by kernel_rfl) rfl rfl ?_
      refine TE_q rfl rfl (RD.move rfl) rfl ?_
      refine TE_q rfl rfl (RD.move rfl) rfl ?_
      refine TE_call rfl rfl trivial Tryd.call23 rfl rfl rfl (fun w hs' => c_r12Same (bldMx 30 recC xs st1 ++ bldMx 30 recC xs st2) _ _ xs xs w ((hbo1.rdx (u := 30) recC_len).mono (fun _ hw => hw.sp (fun a => by simp -failIfUnchanged <;> omega))) ((hbo2.rdx (u := 30) recC_len).mono (fun _ hw => hw.sp (fun a => by simp -failIfUnchanged <;> omega))) (by omega) (hs'.hp.sp (fun a => by simp -failIfUnchanged <;> omega))) ?_
      rintro v58 H2 ⟨rfl, rfl⟩ -; rw [sameLB_self]
      refine TE_q rfl rfl (RD.move rfl) rfl ?_
      refine TE_isT ?_
      first | (refine TE_s rfl rfl rfl rfl rfl ?_) | (refine TE_gq rfl rfl rfl rfl (RD.move rfl) rfl ?_)
      first | (refine TE_s rfl rfl rfl rfl rfl ?_) | (refine TE_gq rfl rfl rfl rfl (RD.move rfl) rfl ?_)
      first | (refine TE_s rfl rfl rfl rfl rfl ?_) | (refine TE_gq rfl rfl rfl rfl (RD.as (v := .bool true) (RD.eql rfl rfl) (by simp)) rfl ?_)
      first | (refine TE_q rfl rfl (RD.pickT rfl rfl) rfl ?_) | (refine TE_q rfl rfl (RD.pickF rfl rfl) rfl ?_)
      refine TE_q rfl rfl (RD.move rfl) rfl ?_
      refine TE_isT ?_
      first | (refine TE_s rfl rfl rfl rfl rfl ?_) | (refine TE_gq rfl rfl rfl rfl (RD.loadA (i := 1) Tryd.isAgg30 Tryd.sizeOf30 rfl rfl (Nat.le_of_ble_eq_true rfl) (rec_all _)) rfl ?_)
      first | (refine TE_s rfl rfl rfl rfl rfl ?_) | (refine TE_gq rfl rfl rfl rfl (RD.loadA (i := 0) Tryd.isAgg30 Tryd.sizeOf30 rfl rfl (Nat.le_of_ble_eq_true rfl) (rec_all _)) rfl ?_)
      first | (refine TE_s rfl rfl rfl rfl rfl ?_) | ((refine TE_call rfl rfl ⟨_, rfl, rfl⟩ Tryd.call10 rfl rfl rfl (fun w hs' => c_ahead a b w hb) ?_; rintro v67 H11 ⟨rfl, rfl⟩ -))
      first | (refine TE_s rfl rfl rfl rfl rfl ?_) | (refine TE_gq rfl rfl rfl rfl (RD.loadA (i := 1) Tryd.isAgg30 Tryd.sizeOf30 rfl rfl (Nat.le_of_ble_eq_true rfl) (rec_all _)) rfl ?_)
      first | (refine TE_s rfl rfl rfl rfl rfl ?_) | (refine TE_gq rfl rfl rfl rfl (RD.loadA (i := 0) Tryd.isAgg30 Tryd.sizeOf30 rfl rfl (Nat.le_of_ble_eq_true rfl) (rec_all _)) rfl ?_)
      first | (refine TE_s rfl rfl rfl rfl rfl ?_) | ((refine TE_call rfl rfl ⟨_, rfl, rfl⟩ Tryd.call24 rfl rfl rfl (fun w hs' => c_r12Ahead a b w hb) ?_; rintro v70 H14 ⟨rfl, rfl⟩ -))
      first | (refine TE_s rfl rfl rfl rfl rfl ?_) | (refine TE_gq rfl rfl rfl rfl (RD.as (v := .bool true) (RD.eql_bool Tryd.runUnderlying4 rfl rfl) (by simp)) rfl ?_)
      first | (refine TE_q rfl rfl (RD.pickT rfl rfl) rfl ?_) | (refine TE_q rfl rfl (RD.pickF rfl rfl) rfl ?_)
      refine TE_q rfl rfl (RD.move rfl) rfl ?_
      refine TE_isT ?_
      first | (refine TE_s rfl rfl rfl rfl rfl ?_) | (refine TE_gq rfl rfl rfl rfl (RD.loadA (i := 1) Tryd.isAgg30 Tryd.sizeOf30 rfl rfl (Nat.le_of_ble_eq_true rfl) (rec_all _)) rfl ?_)
      first | (refine TE_s rfl rfl rfl rfl rfl ?_) | (refine TE_gq rfl rfl rfl rfl (RD.loadA (i := 0) Tryd.isAgg30 Tryd.sizeOf30 rfl rfl (Nat.le_of_ble_eq_true rfl) (rec_all _)) rfl ?_)
      first | (refine TE_s rfl rfl rfl rfl rfl ?_) | ((refine TE_call rfl rfl ⟨_, rfl, rfl⟩ Tryd.call12 rfl rfl rfl (fun w hs' => c_apart a b w ha hb) ?_; rintro v76 H20 ⟨rfl, rfl⟩ -))
      first | (refine TE_s rfl rfl rfl rfl rfl ?_) | (refine TE_gq rfl rfl rfl rfl (RD.loadA (i := 1) Tryd.isAgg30 Tryd.sizeOf30 rfl rfl (Nat.le_of_ble_eq_true rfl) (rec_all _)) rfl ?_)
      first | (refine TE_s rfl rfl rfl rfl rfl ?_) | (refine TE_gq rfl rfl rfl rfl (RD.loadA (i := 0) Tryd.isAgg30 Tryd.sizeOf30 rfl rfl (Nat.le_of_ble_eq_true rfl) (rec_all _)) rfl ?_)
      first | (refine TE_s rfl rfl rfl rfl rfl ?_) | ((refine TE_call rfl rfl ⟨_, rfl, rfl⟩ Tryd.call25 rfl rfl rfl (fun w hs' => c_r12Apart a b w ha hb) ?_; rintro v79 H23 ⟨rfl, rfl⟩ -))
      first | (refine TE_s rfl rfl rfl rfl rfl ?_) | (refine TE_gq rfl rfl rfl rfl (RD.as (v := .bool true) (RD.eql_bool Tryd.runUnderlying4 rfl rfl) (by simp)) rfl ?_)
      first | (refine TE_q rfl rfl (RD.pickT rfl rfl) rfl ?_) | (refine TE_q rfl rfl (RD.pickF rfl rfl) rfl ?_)
      refine TE_q rfl rfl (RD.move rfl) rfl ?_
      refine TE_isT ?_
      first | (refine TE_s rfl rfl rfl rfl rfl ?_) | (refine TE_gq rfl rfl rfl rfl (RD.loadA (i := 1) Tryd.isAgg30 Tryd.sizeOf30 rfl rfl (Nat.le_of_ble_eq_true rfl) (rec_all _)) rfl ?_)
      first | (refine TE_s rfl rfl rfl rfl rfl ?_) | (refine TE_gq rfl rfl rfl rfl (RD.loadA (i := 0) Tryd.isAgg30 Tryd.sizeOf30 rfl rfl (Nat.le_of_ble_eq_true rfl) (rec_all _)) rfl ?_)
      first | (refine TE_s rfl rfl rfl rfl rfl ?_) | ((refine TE_call rfl rfl ⟨_, rfl, rfl⟩ Tryd.call11 rfl rfl rfl (fun w hs' => c_outdoes a b w ha) ?_; rintro v85 H29 ⟨rfl, rfl⟩ -))
      first | (refine TE_s rfl rfl rfl rfl rfl ?_) | (refine TE_gq rfl rfl rfl rfl (RD.loadA (i := 1) Tryd.isAgg30 Tryd.sizeOf30 rfl rfl (Nat.le_of_ble_eq_true rfl) (rec_all _)) rfl ?_)
      first | (refine TE_s rfl rfl rfl rfl rfl ?_) | (refine TE_gq rfl rfl rfl rfl (RD.loadA (i := 0) Tryd.isAgg30 Tryd.sizeOf30 rfl rfl (Nat.le_of_ble_eq_true rfl) (rec_all _)) rfl ?_)
      first | (refine TE_s rfl rfl rfl rfl rfl ?_) | ((refine TE_call rfl rfl ⟨_, rfl, rfl⟩ Tryd.call26 rfl rfl rfl (fun w hs' => c_r12Outdoes a b w ha) ?_; rintro v88 H32 ⟨rfl, rfl⟩ -))
      first | (refine TE_s rfl rfl rfl rfl rfl ?_) | (refine TE_gq rfl rfl rfl rfl (RD.as (v := .bool true) (RD.eql_bool Tryd.runUnderlying4 rfl rfl) (by simp)) rfl ?_)
      first | (refine TE_q rfl rfl (RD.pickT rfl rfl) rfl ?_) | (refine TE_q rfl rfl (RD.pickF rfl rfl) rfl ?_)
      refine TE_q rfl rfl (RD.assign rfl) rfl ?_
      refine TE_nil ?_
      refine pn_seq ?_
      refine pn_seq ?_
      refine pn_plain [1] rfl ?_
      refine TE_q rfl rfl (RD.move rfl) rfl ?_
      refine TE_q rfl rfl (RD.lenX Tryd.runUnderlying53 rfl (hbo1.rdx (u := 30) recC_len)) rfl ?_
      refine TE_q rfl rfl (RD.move rfl) rfl ?_
      refine TE_nil0 ?_
      refine pn_block ?_
      refine pn_loopS (σ := Nat × List Rec) (fun q => [(93, .int .i64 (q.1 : Int)), (92, .int .i64 xs.length), (9, bldVx xs st1), (13, .bool true), (8, bldVx l st0), (2, v)]) (fun q => bldMx 30 recC q.2 st1 ++ (bldMx 30 recC l st0 ++ ((0, g) :: HA))) (fun q => q.1 ≤ xs.length ∧ q.2.length = xs.length ∧ BldOk 52 recC q.2 st1 ∧ ∀ e ∈ bldMx 30 recC q.2 st1, w.heap.size ≤ e.1 ∨ e.1 ∈ ([] : List Nat)) (fun q => xs.length - q.1) (0, xs) ⟨Nat.zero_le _, rfl, hbo1, fun e he => .inl (hX1 e he)⟩ ⟨rfl, rfl, rfl, rfl, rfl, rfl, trivial⟩ (fun a => by simp -failIfUnchanged <;> omega) ?_
      rintro ⟨i, zs⟩ ⟨hi, hzl, hbz, hXz⟩; dsimp only at hi hzl hbz hXz ⊢
      refine pn_seq ?_
      refine pn_plain [] rfl ?_
      refine TE_q rfl rfl (RD.lss rfl rfl) rfl ?_
      refine TE_nil0 ?_
      refine pn_seq ?_
      first | refine pn_condD rfl (fun hc3 => ?_) (fun hc3 => ?_) | refine pn_condN rfl (fun hc3 => ?_) (fun hc3 => ?_) | refine pn_cond rfl (fun hc3 => ?_) (fun hc3 => ?_)
      · refine pn_skip ?_
        refine pn_seq ?_
        refine pn_block ?_
        refine pn_seq ?_
        refine pn_plain [] rfl ?_
        refine TE_q rfl rfl (RD.move rfl) rfl ?_
        refine TE_q rfl rfl (RD.assign rfl) rfl ?_
        refine TE_nil0 ?_
        obtain ⟨bx, capx, tlx, rfl⟩ := hbz.some_of (fun h => by rw [h] at hzl; simp at hzl; omega); have hq9 : ∃ z, zs[i]? = some z := ⟨_, List.getElem?_eq_getElem (by omega)⟩; obtain ⟨z, hz⟩ := hq9
        refine pn_plain [] rfl ?_
        refine TE_q rfl rfl (RD.move rfl) rfl ?_
        refine TE_q rfl rfl (RD.move rfl) rfl ?_
        refine TE_q rfl rfl (RD.indexX (i := i) Tryd.runUnderlying53 Tryd.sizeOf30 (b := bx) (off := 0) (len := xs.length) (cap := capx) rfl rfl rfl (by omega)) rfl ?_
        refine TE_q rfl rfl (RD.fieldAddr (o := 0 + i * 52 + 18) Tryd.runUnderlying30 rfl rfl Tryd.sizeOf9 rfl) rfl ?_
        refine TE_setX (i := i) (f := 18) (z := z) (z' := { z with ref := ⟨#[120]⟩ }) (bldMx 30 recC l st0 ++ ((0, g) :: HA)) recC_len rfl rfl Tryd.sizeOf9 trivial rfl rfl rfl rfl (by omega) hz (by decide) rfl (hXz _ List.mem_cons_self) ?_
        refine TE_nil0 ?_
        refine pn_plain [] rfl ?_
        refine TE_q rfl rfl (RD.addI rfl rfl (by omega) (by omega)) rfl ?_
        refine TE_q rfl rfl (RD.move rfl) rfl ?_
        refine TE_nil0 ?_
        (exact pn_again (i + 1, zs.set i { z with ref := ⟨#[120]⟩ }) ⟨by show i + 1 ≤ _; omega, by rw [List.length_set]; exact hzl, ⟨by rw [List.length_set]; exact hbz.1, hbz.2.1, by have := hbz.2.2; rw [List.length_append, cat_len recC_len] at this ⊢; rw [List.length_set]; exact this⟩, bldx_all (fun k => w.heap.size ≤ k ∨ k ∈ ([] : List Nat)) (by rintro b cap tl ⟨⟩; exact hXz _ List.mem_cons_self)⟩ (by show xs.length - (i + 1) < xs.length - i; omega) ⟨rfl, rfl, rfl, rfl, rfl, rfl, trivial⟩ (List.Sublist.refl _))
      · refine pn_exit ?_
        refine pn_seq ?_
        refine pn_plain [] rfl ?_
        refine TE_q rfl rfl (RD.move rfl) rfl ?_
        refine TE_q rfl rfl (RD.move rfl) rfl ?_
        refine TE_isT ?_
        first | (refine TE_s rfl rfl rfl rfl rfl ?_) | (refine TE_gq rfl rfl rfl rfl (RD.move rfl) rfl ?_)
        first | (refine TE_s rfl rfl rfl rfl rfl ?_) | (refine TE_gq rfl rfl rfl rfl (RD.move rfl) rfl ?_)
        first | (refine TE_s rfl rfl rfl rfl rfl ?_) | ((refine TE_call rfl rfl ⟨_, rfl, rfl⟩ Tryd.call23 rfl rfl rfl (fun w hs' => c_r12Same (bldMx 30 recC l st0 ++ ((0, g) :: HA)) _ _ l l w ((hbo0.rdx (u := 30) recC_len).mono (fun _ hw => hw.sp (fun a => by simp -failIfUnchanged <;> omega))) (hl.mono (fun _ hw => hw.sp (fun a => by simp -failIfUnchanged <;> omega))) (by omega) (hs'.hp.sp (fun a => by simp -failIfUnchanged <;> omega))) ?_; rintro v105 H4 ⟨rfl, rfl⟩ -; rw [sameLB_self]))
        first | (refine TE_q rfl rfl (RD.pickT rfl rfl) rfl ?_) | (refine TE_q rfl rfl (RD.pickF rfl rfl) rfl ?_)
        refine TE_q rfl rfl (RD.assign rfl) rfl ?_
        refine TE_nil0 ?_
        refine pn_ret ?_
        exact pn_done rfl rfl ⟨rfl, rfl⟩ (List.nil_sublist _) (by simp)

end Go.Proofs.YthagkkmbbncclaaDoor
