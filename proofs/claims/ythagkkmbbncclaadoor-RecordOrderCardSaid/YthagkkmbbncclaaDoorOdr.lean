import Derived.Test.YthagkkmbbncclaaDoorMrg
import Derived.Test.YthagkkmbbncclaaDoorStn
import Derived.Test.YthagkkmbbncclaaDoorAlv
namespace Go.Proofs.YthagkkmbbncclaaDoor
open Go Go.Mv
set_option maxRecDepth 8000
set_option maxHeartbeats 4000000 in

theorem c_RecordOrder (HA : Mem) (v : Value) (l : List Rec) (g : Obj) (w : World) (hl : Rdx 52 recC ((0, g) :: HA) v l) (hok : ∀ r ∈ l, RecOk r) (hlen : l.length ≤ 9223372036854775807) (hg : GOk g) (hH : Hp ((0, g) :: HA) w) : Calls Tryd.prog 7 #[v] w (Ret w [] fun v H1 => v = .bool true ∧ H1 = []) := by
  refine fn_enter (args := [_]) Tryd.func7 rfl Tryd.ntmps7 rfl hH ?_
  refine pn_seq ?_
  refine pn_plain [] rfl ?_
  refine TE_q rfl rfl (RD.assign rfl) rfl ?_
  refine TE_nil0 ?_
  refine pn_seq ?_
  refine pn_plain [] rfl ?_
  refine TE_call rfl rfl trivial Tryd.call8 rfl rfl rfl (fun w hs' => c_alive g w hg (hs'.hp.sp (fun a => by simp -failIfUnchanged <;> omega))) ?_
  rintro v12 H0 ⟨rfl, rfl⟩ -
  refine TE_q rfl rfl (RD.assign rfl) rfl ?_
  refine TE_nil0 ?_
  refine pn_seq ?_
  refine pn_seq ?_
  refine pn_cut (σ := Unit) (fun _ => [(19, .bool (decide (30 < l.length))), (3, .bool true), (0, v)]) (fun _ => ((0, g) :: HA)) (fun _ => True) ?_ ?_
  · refine pn_plain [1] rfl ?_
    refine TE_q rfl rfl (RD.move rfl) rfl ?_
    refine TE_q rfl rfl (RD.lenX Tryd.runUnderlying53 rfl hl) rfl ?_
    refine TE_q rfl rfl (RD.gtr rfl rfl) rfl ?_
    refine TE_q rfl rfl (RD.move rfl) rfl ?_
    (first | refine TE_isT ?_ | refine TE_isF ?_ | refine TE_dec (fun h203 => ?_) (fun h203 => ?_) | refine TE_ndec (fun h203 => ?_) (fun h203 => ?_) | refine TE_bool (fun h203 => ?_) (fun h203 => ?_))
    all_goals (first | (refine TE_s rfl rfl rfl rfl rfl ?_) | (refine TE_gq rfl rfl rfl rfl (RD.move rfl) rfl ?_))
    all_goals (first | (refine TE_s rfl rfl rfl rfl rfl ?_) | (refine TE_gq rfl rfl rfl rfl (RD.not rfl) rfl ?_))
    all_goals (first | (refine TE_q rfl rfl (RD.pickT rfl rfl) rfl ?_) | (refine TE_q rfl rfl (RD.pickF rfl rfl) rfl ?_))
    all_goals refine TE_nil0 ?_
    all_goals (first | (have hF : 30 < l.length := (by omega); exact pn_give () trivial ⟨by rw [decide_eq_true hF]; rfl, rfl, rfl, trivial⟩ (fun _ h => h)) | (have hF : ¬ 30 < l.length := (by omega); exact pn_give () trivial ⟨by rw [decide_eq_false hF]; rfl, rfl, rfl, trivial⟩ (fun _ h => h)))
  rintro - -
  first | refine pn_condD rfl (fun hc0 => ?_) (fun hc0 => ?_) | refine pn_condN rfl (fun hc0 => ?_) (fun hc0 => ?_) | refine pn_cond rfl (fun hc0 => ?_) (fun hc0 => ?_)
  · refine pn_seq ?_
    refine pn_plain [] rfl ?_
    refine TE_q rfl rfl (RD.move rfl) rfl ?_
    refine TE_q rfl rfl (RD.assign rfl) rfl ?_
    refine TE_nil0 ?_
    refine pn_ret ?_
    exact pn_done rfl rfl ⟨rfl, rfl⟩ (List.nil_sublist _) (by simp)
  · refine pn_skip ?_
    refine pn_seq ?_
    refine pn_plain [] rfl ?_
    refine TE_q rfl rfl (RD.assign rfl) rfl ?_
    have hl30 : l.length ≤ 30 := (by omega)
    refine TE_nil0 ?_
    refine pn_seq ?_
    refine pn_seq ?_
    refine pn_plain [1] rfl ?_
    refine TE_q rfl rfl (RD.move rfl) rfl ?_
    refine TE_q rfl rfl (RD.lenX Tryd.runUnderlying53 rfl hl) rfl ?_
    refine TE_q rfl rfl (RD.subI rfl rfl (by omega) (by omega)) rfl ?_
    refine TE_q rfl rfl (RD.assign rfl) rfl ?_
    refine TE_nil0 ?_
    refine pn_block ?_
    refine pn_loopS (σ := Nat × SnkS) (fun q => [(5, .int .i64 ((l.length : Int) - 1 - q.1)), (4, bldVx ((l.drop (l.length - q.1)).reverse) q.2), (3, .bool true), (0, v)]) (fun q => bldMx 30 recC ((l.drop (l.length - q.1)).reverse) q.2 ++ ((0, g) :: HA)) (fun q => q.1 ≤ l.length ∧ BldOk 52 recC ((l.drop (l.length - q.1)).reverse) q.2 ∧ (∀ e ∈ bldMx 30 recC ((l.drop (l.length - q.1)).reverse) q.2, w.heap.size ≤ e.1 ∨ e.1 ∈ ([] : List Nat)) ∧ ∀ (j : Nat) (r : Rec), l[j]? = some r → l.length - q.1 ≤ j → r.ref.size ≤ 300) (fun q => l.length - q.1) (0, none) ⟨Nat.zero_le _, by simp [BldOk], by simp [bldMx], fun j r hj h => by have := (List.getElem?_eq_some_iff.1 hj).1; omega⟩ ⟨by show _ = some (Value.int .i64 ((l.length : Int) - 1 - (0 : Nat))); simp [Env.get], rfl, rfl, rfl, trivial⟩ (fun a => by simp -failIfUnchanged <;> omega) ?_
    rintro ⟨k, st⟩ ⟨hk, hbo, hX, hall⟩; dsimp only at hk hbo hX hall ⊢
    refine pn_seq ?_
    refine pn_seq ?_
    refine pn_plain [] rfl ?_
    refine TE_q rfl rfl (RD.move rfl) rfl ?_
    refine TE_q rfl rfl (RD.geq rfl rfl) rfl ?_
    refine TE_nil0 ?_
    first | refine pn_condD rfl (fun hc1 => ?_) (fun hc1 => ?_) | refine pn_condN rfl (fun hc1 => ?_) (fun hc1 => ?_) | refine pn_cond rfl (fun hc1 => ?_) (fun hc1 => ?_)
    · refine pn_skip ?_
      refine pn_seq ?_
      refine pn_block ?_
      refine pn_seq ?_
      refine pn_seq ?_
      have hlt : l.length - 1 - k < l.length := (by omega); have hq9 : ∃ x, l[l.length - 1 - k]? = some x := ⟨_, List.getElem?_eq_getElem hlt⟩; obtain ⟨x, hx⟩ := hq9; have hq9 := hl.at hx; obtain ⟨b, off, cap, hv, hcap, hcell⟩ := hq9
      refine pn_plain [5] rfl ?_
      refine TE_q rfl rfl (RD.move rfl) rfl ?_
      refine TE_q rfl rfl (RD.move rfl) rfl ?_
      refine TE_q rfl rfl (RD.indexX (i := l.length - 1 - k) Tryd.runUnderlying53 Tryd.sizeOf30 (congrArg some hv) rfl (by omega) hlt) rfl ?_
      refine TE_q rfl rfl (RD.fieldAddr (o := off + (l.length - 1 - k) * 52 + 18) Tryd.runUnderlying30 rfl rfl Tryd.sizeOf9 rfl) rfl ?_
      refine TE_l rfl rfl trivial rfl (RD.loadC Tryd.isAgg9 rfl (fun w hw => hcell w (hw.sp (fun a => by simp -failIfUnchanged <;> omega)) 18 _ rfl)) rfl ?_
      refine TE_q rfl rfl (RD.len_string Tryd.runUnderlying9 rfl) rfl ?_
      refine TE_q rfl rfl (RD.gtr rfl rfl) rfl ?_
      refine TE_nil0 ?_
      first | refine pn_condD rfl (fun hc2 => ?_) (fun hc2 => ?_) | refine pn_condN rfl (fun hc2 => ?_) (fun hc2 => ?_) | refine pn_cond rfl (fun hc2 => ?_) (fun hc2 => ?_)
      · refine pn_seq ?_
        refine pn_plain [] rfl ?_
        refine TE_q rfl rfl (RD.move rfl) rfl ?_
        refine TE_q rfl rfl (RD.assign rfl) rfl ?_
        refine TE_nil0 ?_
        refine pn_ret ?_
        exact pn_done rfl rfl ⟨rfl, rfl⟩ (List.nil_sublist _) (by simp)
      · refine pn_skip ?_
        refine pn_plain [] rfl ?_
        refine TE_q rfl rfl (RD.move rfl) rfl ?_
        refine TE_q rfl rfl (RD.move rfl) rfl ?_
        refine TE_q rfl rfl (RD.move rfl) rfl ?_
        refine TE_q rfl rfl (RD.indexX (i := l.length - 1 - k) Tryd.runUnderlying53 Tryd.sizeOf30 (congrArg some hv) rfl (by omega) hlt) rfl ?_
        refine TE_l rfl rfl trivial rfl (RD.as (v := recV x) (RD.loadX (vs := recC x) Tryd.isAgg30 Tryd.sizeOf30 rfl rfl (fun w hw j u hu => hcell w (hw.sp (fun a => by simp -failIfUnchanged <;> omega)) j u hu)) (recC_agg _)) rfl ?_
        refine TE_buildSlice (cells := (recV x).cells) rfl Tryd.runUnderlying53 Tryd.sizeOf30 Tryd.zeroValue30 rfl rfl rfl (by kernel_rfl) trivial rfl fun b41 hb41 => ?_
        refine TE_sp (bldMx 30 recC (l.drop (l.length - k)).reverse st ++ ((b41, .cells (recV x).cells 30 (0, 0)) :: ((0, g) :: HA))) (fun a => by simp -failIfUnchanged <;> omega) ?_
        refine TE_appendX (st := st) (l := (l.drop (l.length - k)).reverse) (ys := [x]) ((b41, .cells (recV x).cells 30 (0, 0)) :: ((0, g) :: HA)) recC_len recC_one rfl rfl rfl rfl trivial rfl Tryd.underlying53 elRec rfl rfl rfl hbo (Rdx.blk (H := [(b41, .cells (recV x).cells 30 (0, 0))]) (i := 0) (tl := []) (c := 1) recC_len (by rw [cells1]; rfl) rfl (Nat.le_refl _)) (fun _ hw => hw.sp (fun a => by simp -failIfUnchanged <;> omega)) (by simp; omega) rfl hX ?_
        intro st3 hbo3 hX3 _
        refine TE_q rfl rfl (RD.assign rfl) rfl ?_
        refine TE_nil0 ?_
        refine pn_plain [] rfl ?_
        refine TE_q rfl rfl (RD.move rfl) rfl ?_
        refine TE_q rfl rfl (RD.subI rfl rfl (by omega) (by omega)) rfl ?_
        refine TE_q rfl rfl (RD.assign rfl) rfl ?_
        refine TE_nil0 ?_
        (have hts : (l.drop (l.length - (k + 1))).reverse = (l.drop (l.length - k)).reverse ++ [x] := (by rw [show l.length - (k + 1) = l.length - 1 - k from by omega, List.drop_eq_getElem_cons hlt, List.reverse_cons, show l.length - 1 - k + 1 = l.length - k from by omega]; congr 2; exact (List.getElem?_eq_some_iff.1 hx).2); rw [← hts] at hbo3 hX3 ⊢; exact pn_againS (k + 1, st3) ⟨by show k + 1 ≤ _; omega, hbo3, hX3, fun j r hj h => by by_cases h' : l.length - k ≤ j; exact hall j r hj h'; obtain rfl : j = l.length - 1 - k := (by have h'' : l.length - (k + 1) ≤ j := h; omega); rw [hx] at hj; cases hj; omega⟩ (by show l.length - (k + 1) < l.length - k; omega) ⟨by show some (Value.int .i64 _) = some (Value.int .i64 _); congr 2; omega, rfl, rfl, rfl, trivial⟩ (fun a => by simp -failIfUnchanged <;> omega))
    · refine pn_exit ?_
      refine pn_seq ?_
      obtain rfl : k = l.length := (by omega); rw [show l.length - l.length = 0 from by omega] at hbo hX hall ⊢; have hsz : ∀ r ∈ l, r.ref.size < 4294967281 := (fun r hr => by obtain ⟨j, hj⟩ := List.mem_iff_getElem?.1 hr; have := hall j r hj (by omega); omega); have hbp : ((l.drop 0).reverse).Perm l := (List.reverse_perm _); refine pn_sp ((0, g) :: (bldMx 30 recC (l.drop 0).reverse st ++ HA)) (fun a => by simp -failIfUnchanged <;> omega) ?_
      refine pn_plain [] rfl ?_
      refine TE_q rfl rfl (RD.move rfl) rfl ?_
      refine TE_call rfl rfl trivial Tryd.call21 rfl rfl rfl (fun w hs' => c_order (bldMx 30 recC (l.drop 0).reverse st ++ HA) v l g w (hl.mono (fun _ hw => hw.sp (fun a => by simp -failIfUnchanged <;> omega))) hok hsz (by omega) hg (hs'.hp.sp (fun a => by simp -failIfUnchanged <;> omega))) ?_
      rintro v45 H1 hpo hX1; obtain ⟨xs, st1, rfl, rfl, hbo1, hx1, hx2⟩ := ord_uni hpo
      refine TE_q rfl rfl (RD.move rfl) rfl ?_
      refine TE_q rfl rfl (RD.extract rfl rfl) rfl ?_
      refine TE_q rfl rfl (RD.extract rfl rfl) rfl ?_
      refine TE_q rfl rfl (RD.assign rfl) rfl ?_
      refine TE_q rfl rfl (RD.assign rfl) rfl ?_
      refine TE_nil0 ?_
      refine pn_seq ?_
      refine pn_sp ((0, g) :: (bldMx 30 recC xs st1 ++ (bldMx 30 recC (l.drop 0).reverse st ++ HA))) (fun a => by simp -failIfUnchanged <;> omega) ?_
      refine pn_plain [] rfl ?_
      refine TE_q rfl rfl (RD.move rfl) rfl ?_
      refine TE_call rfl rfl trivial Tryd.call21 rfl rfl rfl (fun w hs' => c_order (bldMx 30 recC xs st1 ++ (bldMx 30 recC (l.drop 0).reverse st ++ HA)) _ (l.drop 0).reverse g w ((hbo.rdx (u := 30) recC_len).mono (fun _ hw => hw.sp (fun a => by simp -failIfUnchanged <;> omega))) (fun r hr => hok r (hbp.mem_iff.1 hr)) (fun r hr => hsz r (hbp.mem_iff.1 hr)) (by rw [hbp.length_eq]; omega) hg (hs'.hp.sp (fun a => by simp -failIfUnchanged <;> omega))) ?_
      rintro v50 H1 hpr hX2; obtain ⟨ys, st2, rfl, rfl, hbo2, hy1, hy2⟩ := ord_uni hpr; rw [ordOk_perm hbp] at hy1 hy2 ⊢; obtain rfl := ord_both hx1 hx2 (fun h => ⟨(hy1 h).1.trans hbp, (hy1 h).2⟩) hy2
      refine TE_q rfl rfl (RD.move rfl) rfl ?_
      refine TE_q rfl rfl (RD.extract rfl rfl) rfl ?_
      refine TE_q rfl rfl (RD.extract rfl rfl) rfl ?_
      refine TE_q rfl rfl (RD.assign rfl) rfl ?_
      refine TE_q rfl rfl (RD.assign rfl) rfl ?_
      have hRx : Rdx 52 recC (bldMx 30 recC xs st2 ++ (bldMx 30 recC xs st1 ++ ((0, g) :: HA))) (bldVx xs st1) xs := ((hbo1.rdx (u := 30) recC_len).mono (fun _ hw => hw.sp (fun a => by simp -failIfUnchanged <;> omega))); have hRy : Rdx 52 recC (bldMx 30 recC xs st2 ++ (bldMx 30 recC xs st1 ++ ((0, g) :: HA))) (bldVx xs st2) xs := ((hbo2.rdx (u := 30) recC_len).mono (fun _ hw => hw.sp (fun a => by simp -failIfUnchanged <;> omega)))
      refine TE_nil0 ?_
      refine pn_seq ?_
      refine pn_seq ?_
      refine pn_cut (σ := Unit) (fun _ => [(62, .bool false), (6, bldVx xs st1), (8, bldVx xs st2), (7, .int .i64 (err (ordOk l) 120)), (3, .bool true), (0, v)]) (fun _ => (bldMx 30 recC xs st2 ++ (bldMx 30 recC xs st1 ++ ((0, g) :: HA)))) (fun _ => True) ?_ ?_
      · refine pn_sp (bldMx 30 recC xs st2 ++ (bldMx 30 recC xs st1 ++ ((0, g) :: HA))) (fun a => by simp -failIfUnchanged <;> omega) ?_
        refine pn_plain [5, 7] rfl ?_
        refine TE_q rfl rfl (RD.move rfl) rfl ?_
        refine TE_q rfl rfl (RD.move rfl) rfl ?_
        refine TE_q rfl rfl (RD.as (v := .bool false) (RD.neq rfl rfl) (by simp)) rfl ?_
        refine TE_q rfl rfl (RD.move rfl) rfl ?_
        refine TE_isF ?_
        first | (refine TE_s rfl rfl rfl rfl rfl ?_) | (refine TE_gq rfl rfl rfl rfl (RD.move rfl) rfl ?_)
        first | (refine TE_s rfl rfl rfl rfl rfl ?_) | (refine TE_gq rfl rfl rfl rfl (RD.lenX Tryd.runUnderlying53 rfl hRx) rfl ?_)
        first | (refine TE_s rfl rfl rfl rfl rfl ?_) | (refine TE_gq rfl rfl rfl rfl (RD.move rfl) rfl ?_)
        first | (refine TE_s rfl rfl rfl rfl rfl ?_) | (refine TE_gq rfl rfl rfl rfl (RD.lenX Tryd.runUnderlying53 rfl hRy) rfl ?_)
        first | (refine TE_s rfl rfl rfl rfl rfl ?_) | (refine TE_gq rfl rfl rfl rfl (RD.as (v := .bool false) (RD.neq rfl rfl) (by simp)) rfl ?_)
        first | (refine TE_q rfl rfl (RD.pickT rfl rfl) rfl ?_) | (refine TE_q rfl rfl (RD.pickF rfl rfl) rfl ?_)
        refine TE_nil0 ?_
        (exact pn_give () trivial ⟨rfl, rfl, rfl, rfl, rfl, rfl, trivial⟩ (fun _ h => h))
      rintro - -
      refine pn_condF rfl ?_
      refine pn_skip ?_
      refine pn_seq ?_
      refine pn_seq ?_
      refine pn_plain [1] rfl ?_
      refine TE_q rfl rfl (RD.move rfl) rfl ?_
      have hxl : xs.length ≤ l.length := ord_len hx1 hx2; have hxok : ∀ r ∈ xs, RecOk r := (fun r hr => by cases ho : ordOk l with | true => exact hok r ((hx1 ho).1.mem_iff.1 hr) | false => rw [hx2 ho] at hr; simp at hr)
      refine TE_q rfl rfl (RD.lenX Tryd.runUnderlying53 rfl hRx) rfl ?_
      refine TE_q rfl rfl (RD.move rfl) rfl ?_
      refine TE_nil0 ?_
      refine pn_block ?_
      refine pn_loop (σ := Nat) (fun i => [(65, .int .i64 (i : Int)), (64, .int .i64 xs.length), (6, bldVx xs st1), (8, bldVx xs st2), (7, .int .i64 (err (ordOk l) 120)), (3, .bool true), (0, v)]) (fun _ => (bldMx 30 recC xs st2 ++ (bldMx 30 recC xs st1 ++ ((0, g) :: HA)))) (fun i => i ≤ xs.length) (fun i => xs.length - i) 0 (Nat.zero_le _) ⟨rfl, rfl, rfl, rfl, rfl, rfl, rfl, trivial⟩ (List.Sublist.refl _) ?_
      intro i hi
      refine pn_seq ?_
      refine pn_plain [] rfl ?_
      refine TE_q rfl rfl (RD.lss rfl rfl) rfl ?_
      refine TE_nil0 ?_
      refine pn_seq ?_
      first | refine pn_condD rfl (fun hc4 => ?_) (fun hc4 => ?_) | refine pn_condN rfl (fun hc4 => ?_) (fun hc4 => ?_) | refine pn_cond rfl (fun hc4 => ?_) (fun hc4 => ?_)
      · refine pn_skip ?_
        refine pn_seq ?_
        refine pn_block ?_
        refine pn_seq ?_
        refine pn_plain [] rfl ?_
        refine TE_q rfl rfl (RD.move rfl) rfl ?_
        refine TE_q rfl rfl (RD.assign rfl) rfl ?_
        refine TE_nil0 ?_
        refine pn_seq ?_
        refine pn_seq ?_
        have hix : i < xs.length := (by omega); have hq9 : ∃ x, xs[i]? = some x := ⟨_, List.getElem?_eq_getElem hix⟩; obtain ⟨x, hx⟩ := hq9; have hq9 := hRx.at hx; obtain ⟨bx, offx, capx, hvx, hcapx, hcellx⟩ := hq9; have hq9 := hRy.at hx; obtain ⟨by', offy, capy, hvy, hcapy, hcelly⟩ := hq9
        refine pn_drawT [3, 7] [] [] [] (bldMx 30 recC xs st2 ++ (bldMx 30 recC xs st1 ++ ((0, g) :: HA))) rfl rfl (by kernel_rfl) (by kernel_rfl) rfl rfl ?_
        refine TE_q rfl rfl (RD.move rfl) rfl ?_
        refine TE_q rfl rfl (RD.move rfl) rfl ?_
        refine TE_q rfl rfl (RD.indexX (i := i) Tryd.runUnderlying53 Tryd.sizeOf30 (congrArg some hvx) rfl rfl (by omega)) rfl ?_
        refine TE_q rfl rfl (RD.as (v := recV x) (RD.loadX (vs := recC x) Tryd.isAgg30 Tryd.sizeOf30 rfl rfl (fun w hw j u hu => hcellx w (hw.sp (fun a => by simp -failIfUnchanged <;> omega)) j u hu)) (recC_agg _)) rfl ?_
        refine TE_q rfl rfl (RD.move rfl) rfl ?_
        refine TE_q rfl rfl (RD.move rfl) rfl ?_
        refine TE_q rfl rfl (RD.indexX (i := i) Tryd.runUnderlying53 Tryd.sizeOf30 (congrArg some hvy) rfl rfl (by omega)) rfl ?_
        refine TE_q rfl rfl (RD.as (v := recV x) (RD.loadX (vs := recC x) Tryd.isAgg30 Tryd.sizeOf30 rfl rfl (fun w hw j u hu => hcelly w (hw.sp (fun a => by simp -failIfUnchanged <;> omega)) j u hu)) (recC_agg _)) rfl ?_
        refine TE_q rfl rfl (RD.as (v := .bool false) (RD.neq_agg Tryd.eqGuardType30 (eq_rec x x) rfl rfl) (by rw [sameRB_self]; rfl)) rfl ?_
        refine TE_nil ?_
        refine pn_condF rfl ?_
        refine pn_skip ?_
        refine pn_seq ?_
        refine pn_plain [] rfl ?_
        refine TE_q rfl rfl (RD.assign rfl) rfl ?_
        refine TE_nil0 ?_
        refine pn_block ?_
        have hoT : ordOk l = true := (by cases ho : ordOk l with | true => rfl | false => rw [hx2 ho] at hx; simp at hx); refine pn_loop (σ := Nat) (fun k => [(11, .int .i64 (k : Int)), (10, .int .i64 (i : Int)), (65, .int .i64 (i : Int)), (64, .int .i64 xs.length), (6, bldVx xs st1), (8, bldVx xs st2), (7, .int .i64 (err (ordOk l) 120)), (3, .bool true), (0, v)]) (fun _ => (bldMx 30 recC xs st2 ++ (bldMx 30 recC xs st1 ++ ((0, g) :: HA)))) (fun k => k ≤ i) (fun k => i - k) 0 (Nat.zero_le _) ⟨rfl, rfl, rfl, rfl, rfl, rfl, rfl, rfl, rfl, trivial⟩ (List.Sublist.refl _) ?_
        intro k hk
        refine pn_seq ?_
        refine pn_seq ?_
        refine pn_plain [] rfl ?_
        refine TE_q rfl rfl (RD.move rfl) rfl ?_
        refine TE_q rfl rfl (RD.move rfl) rfl ?_
        refine TE_q rfl rfl (RD.lss rfl rfl) rfl ?_
        refine TE_nil0 ?_
        first | refine pn_condD rfl (fun hc6 => ?_) (fun hc6 => ?_) | refine pn_condN rfl (fun hc6 => ?_) (fun hc6 => ?_) | refine pn_cond rfl (fun hc6 => ?_) (fun hc6 => ?_)
        · refine pn_skip ?_
          refine pn_seq ?_
          refine pn_block ?_
          refine pn_seq ?_
          have hkz : k < xs.length := (by omega); have hq9 : ∃ z, xs[k]? = some z := ⟨_, List.getElem?_eq_getElem hkz⟩; obtain ⟨z, hz⟩ := hq9; have hq9 := hRx.at hz; obtain ⟨bz, offz, capz, hvz, hcapz, hcellz⟩ := hq9; have hxo : RecOk x := hxok x (List.mem_of_getElem? hx); have hzo : RecOk z := hxok z (List.mem_of_getElem? hz); have hpw := List.pairwise_iff_getElem.1 (hx1 hoT).2 k i hkz hix (by omega); rw [(List.getElem?_eq_some_iff.1 hx).2, (List.getElem?_eq_some_iff.1 hz).2] at hpw; have hnb : aheadB x z = true → atMostB x.ctx z.ctx = false := (fun h => not_behind (ordOk_rec hoT ((hx1 hoT).1.mem_iff.1 (List.mem_of_getElem? hx))) hpw h); refine pn_cut (σ := Unit) (fun _ => [(103, .bool false), (11, .int .i64 (k : Int)), (10, .int .i64 (i : Int)), (65, .int .i64 (i : Int)), (64, .int .i64 xs.length), (6, bldVx xs st1), (8, bldVx xs st2), (7, .int .i64 (err (ordOk l) 120)), (3, .bool true), (0, v)]) (fun _ => (bldMx 30 recC xs st2 ++ (bldMx 30 recC xs st1 ++ ((0, g) :: HA)))) (fun _ => True) ?_ ?_
          · refine pn_drawT [3, 7, 14, 19] [] [] [] (bldMx 30 recC xs st2 ++ (bldMx 30 recC xs st1 ++ ((0, g) :: HA))) rfl rfl (by kernel_rfl) (by kernel_rfl) rfl rfl ?_
            refine TE_q rfl rfl (RD.move rfl) rfl ?_
            refine TE_q rfl rfl (RD.move rfl) rfl ?_
            refine TE_q rfl rfl (RD.indexX (i := i) Tryd.runUnderlying53 Tryd.sizeOf30 (congrArg some hvx) rfl rfl (by omega)) rfl ?_
            refine TE_q rfl rfl (RD.as (v := recV x) (RD.loadX (vs := recC x) Tryd.isAgg30 Tryd.sizeOf30 rfl rfl (fun w hw j u hu => hcellx w (hw.sp (fun a => by simp -failIfUnchanged <;> omega)) j u hu)) (recC_agg _)) rfl ?_
            refine TE_q rfl rfl (RD.move rfl) rfl ?_
            refine TE_q rfl rfl (RD.move rfl) rfl ?_
            refine TE_q rfl rfl (RD.indexX (i := k) Tryd.runUnderlying53 Tryd.sizeOf30 (congrArg some hvz) rfl rfl (by omega)) rfl ?_
            refine TE_q rfl rfl (RD.as (v := recV z) (RD.loadX (vs := recC z) Tryd.isAgg30 Tryd.sizeOf30 rfl rfl (fun w hw j u hu => hcellz w (hw.sp (fun a => by simp -failIfUnchanged <;> omega)) j u hu)) (recC_agg _)) rfl ?_
            refine TE_call rfl rfl trivial Tryd.call10 rfl rfl rfl (fun w hs' => c_ahead x z w hzo) ?_
            rintro v90 H8 ⟨rfl, rfl⟩ -
            refine TE_q rfl rfl (RD.move rfl) rfl ?_
            (first | refine TE_isT ?_ | refine TE_isF ?_ | refine TE_dec (fun h2309 => ?_) (fun h2309 => ?_) | refine TE_ndec (fun h2309 => ?_) (fun h2309 => ?_) | refine TE_bool (fun h2309 => ?_) (fun h2309 => ?_))
            all_goals (first | (refine TE_s rfl rfl rfl rfl rfl ?_) | (refine TE_gq rfl rfl rfl rfl (RD.move rfl) rfl ?_))
            all_goals (first | (refine TE_s rfl rfl rfl rfl rfl ?_) | (refine TE_gq rfl rfl rfl rfl (RD.move rfl) rfl ?_))
            all_goals (first | (refine TE_s rfl rfl rfl rfl rfl ?_) | (refine TE_gq rfl rfl rfl rfl (RD.indexX (i := i) Tryd.runUnderlying53 Tryd.sizeOf30 (congrArg some hvx) rfl rfl (by omega)) rfl ?_))
            all_goals (first | (refine TE_s rfl rfl rfl rfl rfl ?_) | (refine TE_gq rfl rfl rfl rfl (RD.fieldAddr (o := offx + i * 52 + 2) Tryd.runUnderlying30 rfl rfl Tryd.sizeOf26 rfl) rfl ?_))
            all_goals (first | (refine TE_s rfl rfl rfl rfl rfl ?_) | (refine TE_gq rfl rfl rfl rfl (RD.as (v := vecV x.ctx) (RD.loadX (vs := vecC x.ctx) Tryd.isAgg26 Tryd.sizeOf26 rfl rfl (fun w hw j u hu => by have := hcellx w (hw.sp (fun a => by simp -failIfUnchanged <;> omega)) (2 + j) u (ctxC_in hu); rwa [← Nat.add_assoc] at this)) (vecC_agg _)) rfl ?_))
            all_goals (first | (refine TE_s rfl rfl rfl rfl rfl ?_) | (refine TE_gq rfl rfl rfl rfl (RD.move rfl) rfl ?_))
            all_goals (first | (refine TE_s rfl rfl rfl rfl rfl ?_) | (refine TE_gq rfl rfl rfl rfl (RD.move rfl) rfl ?_))
            all_goals (first | (refine TE_s rfl rfl rfl rfl rfl ?_) | (refine TE_gq rfl rfl rfl rfl (RD.indexX (i := k) Tryd.runUnderlying53 Tryd.sizeOf30 (congrArg some hvz) rfl rfl (by omega)) rfl ?_))
            all_goals (first | (refine TE_s rfl rfl rfl rfl rfl ?_) | (refine TE_gq rfl rfl rfl rfl (RD.fieldAddr (o := offz + k * 52 + 2) Tryd.runUnderlying30 rfl rfl Tryd.sizeOf26 rfl) rfl ?_))
            all_goals (first | (refine TE_s rfl rfl rfl rfl rfl ?_) | (refine TE_gq rfl rfl rfl rfl (RD.as (v := vecV z.ctx) (RD.loadX (vs := vecC z.ctx) Tryd.isAgg26 Tryd.sizeOf26 rfl rfl (fun w hw j u hu => by have := hcellz w (hw.sp (fun a => by simp -failIfUnchanged <;> omega)) (2 + j) u (ctxC_in hu); rwa [← Nat.add_assoc] at this)) (vecC_agg _)) rfl ?_))
            all_goals (first | (refine TE_s rfl rfl rfl rfl rfl ?_) | ((refine TE_call (post := fun v H1 => v = .bool false ∧ H1 = []) rfl rfl ⟨_, rfl, rfl⟩ Tryd.call27 rfl rfl rfl (fun w hs' => by have h := c_atMost x.ctx z.ctx w hxo.ctx hzo.ctx; rw [hnb h2309] at h; exact h) ?_; rintro v102 H20 ⟨rfl, rfl⟩ -)))
            all_goals (first | (refine TE_q rfl rfl (RD.pickT rfl rfl) rfl ?_) | (refine TE_q rfl rfl (RD.pickF rfl rfl) rfl ?_))
            all_goals refine TE_nil ?_
            all_goals (exact pn_give () trivial ⟨rfl, rfl, rfl, rfl, rfl, rfl, rfl, rfl, rfl, rfl, trivial⟩ (fun w h => h.sp (fun a => by simp -failIfUnchanged <;> omega)))
          rintro - -
          refine pn_condF rfl ?_
          refine pn_skip ?_
          refine pn_plain [] rfl ?_
          refine TE_q rfl rfl (RD.move rfl) rfl ?_
          refine TE_q rfl rfl (RD.addI rfl rfl (by omega) (by omega)) rfl ?_
          refine TE_q rfl rfl (RD.assign rfl) rfl ?_
          refine TE_nil0 ?_
          (exact pn_again (k + 1) (by omega) (by show i - (k + 1) < i - k; omega) ⟨rfl, rfl, rfl, rfl, rfl, rfl, rfl, rfl, rfl, trivial⟩ (List.Sublist.refl _))
        · refine pn_exit ?_
          refine pn_plain [] rfl ?_
          refine TE_q rfl rfl (RD.addI rfl rfl (by omega) (by omega)) rfl ?_
          refine TE_q rfl rfl (RD.move rfl) rfl ?_
          refine TE_nil0 ?_
          (exact pn_again (i + 1) (by omega) (by show xs.length - (i + 1) < xs.length - i; omega) ⟨rfl, rfl, rfl, rfl, rfl, rfl, rfl, trivial⟩ (List.Sublist.refl _))
      · refine pn_exit ?_
        refine pn_seq ?_
        refine pn_cut (σ := Unit) (fun _ => [(2, .bool true)]) (fun _ => []) (fun _ => True) ?_ ?_
        · refine pn_plain [6, 8, 16] rfl ?_
          refine TE_q rfl rfl (RD.move rfl) rfl ?_
          refine TE_q rfl rfl (RD.move rfl) rfl ?_
          refine TE_isT ?_
          first | (refine TE_s rfl rfl rfl rfl rfl ?_) | (refine TE_gq rfl rfl rfl rfl (RD.move rfl) rfl ?_)
          first | (refine TE_s rfl rfl rfl rfl rfl ?_) | (refine TE_gq rfl rfl rfl rfl (RD.eql rfl rfl) rfl ?_)
          first | (refine TE_s rfl rfl rfl rfl rfl ?_) | (refine TE_gq rfl rfl rfl rfl (RD.move rfl) rfl ?_)
          (first | refine TE_isT ?_ | refine TE_isF ?_ | refine TE_dec (fun h2604 => ?_) (fun h2604 => ?_) | refine TE_ndec (fun h2604 => ?_) (fun h2604 => ?_) | refine TE_bool (fun h2604 => ?_) (fun h2604 => ?_) | skip)
          all_goals (first | (refine TE_s rfl rfl rfl rfl rfl ?_) | (refine TE_su rfl rfl rfl rfl ?_) | (refine TE_gq rfl rfl rfl rfl (RD.move rfl) rfl ?_))
          all_goals (first | (refine TE_s rfl rfl rfl rfl rfl ?_) | (refine TE_su rfl rfl rfl rfl ?_) | (refine TE_gq rfl rfl rfl rfl (RD.lenX Tryd.runUnderlying53 rfl hRx) rfl ?_))
          all_goals (first | (refine TE_s rfl rfl rfl rfl rfl ?_) | (refine TE_su rfl rfl rfl rfl ?_) | (refine TE_gq rfl rfl rfl rfl (RD.move rfl) rfl ?_))
          all_goals (first | (refine TE_s rfl rfl rfl rfl rfl ?_) | (refine TE_su rfl rfl rfl rfl ?_) | (refine TE_gq rfl rfl rfl rfl (RD.lenX Tryd.runUnderlying53 rfl hl) rfl ?_))
          all_goals (first | (refine TE_s rfl rfl rfl rfl rfl ?_) | (refine TE_su rfl rfl rfl rfl ?_) | (refine TE_gq rfl rfl rfl rfl (RD.as (v := .bool true) (RD.eql rfl rfl) (by rw [(hx1 (err0 h2604)).1.length_eq]; simp)) rfl ?_))
          all_goals (first | (refine TE_s rfl rfl rfl rfl rfl ?_) | (refine TE_gq rfl rfl rfl rfl (RD.pickT rfl rfl) rfl ?_) | (refine TE_gq rfl rfl rfl rfl (RD.pickF rfl rfl) rfl ?_))
          all_goals (first | (refine TE_s rfl rfl rfl rfl rfl ?_) | (refine TE_gq rfl rfl rfl rfl (RD.move rfl) rfl ?_))
          all_goals (first | refine TE_isT ?_ | refine TE_isF ?_ | refine TE_dec (fun h2611 => ?_) (fun h2611 => ?_) | refine TE_ndec (fun h2611 => ?_) (fun h2611 => ?_) | refine TE_bool (fun h2611 => ?_) (fun h2611 => ?_) | skip)
          all_goals (first | (refine TE_s rfl rfl rfl rfl rfl ?_) | (refine TE_su rfl rfl rfl rfl ?_) | (refine TE_gq rfl rfl rfl rfl (RD.move rfl) rfl ?_))
          all_goals (first | (refine TE_s rfl rfl rfl rfl rfl ?_) | (refine TE_su rfl rfl rfl rfl ?_) | (refine TE_gq rfl rfl rfl rfl (RD.as (v := .bool true) (RD.eql rfl rfl) (by rw [err1 h2604]; rfl)) rfl ?_))
          all_goals (first | (refine TE_s rfl rfl rfl rfl rfl ?_) | (refine TE_su rfl rfl rfl rfl ?_) | (refine TE_gq rfl rfl rfl rfl (RD.move rfl) rfl ?_))
          all_goals (first | refine TE_isT ?_ | refine TE_isF ?_ | refine TE_dec (fun h2614 => ?_) (fun h2614 => ?_) | refine TE_ndec (fun h2614 => ?_) (fun h2614 => ?_) | refine TE_bool (fun h2614 => ?_) (fun h2614 => ?_) | skip)
          all_goals (first | (refine TE_s rfl rfl rfl rfl rfl ?_) | (refine TE_su rfl rfl rfl rfl ?_) | (refine TE_gq rfl rfl rfl rfl (RD.move rfl) rfl ?_))
          all_goals (first | (refine TE_s rfl rfl rfl rfl rfl ?_) | (refine TE_su rfl rfl rfl rfl ?_) | (refine TE_gq rfl rfl rfl rfl (RD.lenX Tryd.runUnderlying53 rfl hRx) rfl ?_))
          all_goals (first | (refine TE_s rfl rfl rfl rfl rfl ?_) | (refine TE_su rfl rfl rfl rfl ?_) | (refine TE_gq rfl rfl rfl rfl (RD.as (v := .bool true) (RD.eql rfl rfl) (by rw [hx2 (err1 h2604)]; rfl)) rfl ?_))
          all_goals (first | (refine TE_s rfl rfl rfl rfl rfl ?_) | (refine TE_su rfl rfl rfl rfl ?_) | (refine TE_gq rfl rfl rfl rfl (RD.pickT rfl rfl) rfl ?_) | (refine TE_gq rfl rfl rfl rfl (RD.pickF rfl rfl) rfl ?_))
          all_goals (first | (refine TE_s rfl rfl rfl rfl rfl ?_) | (refine TE_gq rfl rfl rfl rfl (RD.pickT rfl rfl) rfl ?_) | (refine TE_gq rfl rfl rfl rfl (RD.pickF rfl rfl) rfl ?_))
          all_goals (first | (refine TE_q rfl rfl (RD.pickT rfl rfl) rfl ?_) | (refine TE_q rfl rfl (RD.pickF rfl rfl) rfl ?_))
          all_goals refine TE_q rfl rfl (RD.assign rfl) rfl ?_
          all_goals refine TE_nil0 ?_
          all_goals (exact pn_give () trivial ⟨rfl, trivial⟩ (fun w _ => Hp.nil w))
        rintro - -
        refine pn_ret ?_
        exact pn_done rfl rfl ⟨rfl, rfl⟩ (List.nil_sublist _) (by simp)

end Go.Proofs.YthagkkmbbncclaaDoor
