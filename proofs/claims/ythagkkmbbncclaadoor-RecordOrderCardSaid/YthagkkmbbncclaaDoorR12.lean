import Derived.Test.YthagkkmbbncclaaDoorR4b
import Derived.Test.YthagkkmbbncclaaDoorR6
import Derived.Test.YthagkkmbbncclaaDoorBak
namespace Go.Proofs.YthagkkmbbncclaaDoor
open Go Go.Mv
set_option maxRecDepth 8000
def baseB (r : Rec) : Bool := dotOk r.s r.c && decide (r.ctx r.s.toNat = r.c - 1) && decide (breaksN r.ref = 0)
theorem base_F1 {r : Rec} (h : ¬ err (dotOk r.s r.c) 50 = 0) : (!baseB r) = true := by simp [baseB, err1 h]
theorem base_F2 {r : Rec} (h : ¬ r.ctx r.s.toNat + 1 = r.c) : (!baseB r) = true := by
  have : ¬ r.ctx r.s.toNat = r.c - 1 := by omega
  simp [baseB, this]
theorem base_T {r : Rec} (h1 : err (dotOk r.s r.c) 50 = 0) (h2 : r.ctx r.s.toNat + 1 = r.c) : (!baseB r) = !decide (err (decide (breaksN r.ref = 0)) 40 = 0) := by
  have h3 : r.ctx r.s.toNat = r.c - 1 := by omega
  simp only [baseB, err0 h1, h3, decide_true, Bool.true_and]
  by_cases hb : breaksN r.ref = 0
  · simp [hb, err]
  · simp [hb, err]
theorem recOk_base {r : Rec} : recOkB r = (baseB r && (r.has || tip0 r)) := rfl
theorem rec_tip_get {r : Rec} {i : Nat} (h : i < 32) : cget (recV r).cells (20 + (i : Int).toNat * 1) = some (.int .u8 (r.tip i)) := by
  rw [cget_eq, Int.toNat_natCast, Nat.mul_one]; exact rec_tip_at r h
theorem tip0_T {r : Rec} (h : ∀ i, i < 32 → r.tip i = 0) : tip0 r = true := sameN_iff.2 h
theorem tip0_F {r : Rec} {i : Nat} (hi : i < 32) (h : ¬ r.tip i = 0) : tip0 r = false := by
  cases ht : tip0 r with
  | false => rfl
  | true => exact absurd (sameN_iff.1 ht i hi) h

set_option maxHeartbeats 2000000 in

theorem c_r12Check (r : Rec) (w : World) (hr : RecOk r) : Calls Tryd.prog 20 #[recV r] w (Ret w [] fun v H1 => v = .int .i64 (err (recOkB r) 120) ∧ H1 = []) := by
  have hvs := hr.ctx r.s.toNat
  have hrc := hr.c
  have hrs := hr.s
  refine fn_enter (args := [_]) Tryd.func20 rfl Tryd.ntmps20 rfl (Hp.nil w) ?_
  refine pn_seq ?_
  refine pn_plain [] rfl ?_
  refine TE_box rfl rfl trivial rfl fun b1 hb1 => ?_
  refine TE_q rfl rfl (RD.assign rfl) rfl ?_
  refine TE_nil0 ?_
  refine pn_seq ?_
  refine pn_seq ?_
  refine pn_cut (σ := Unit) (fun _ => [(27, .bool (!baseB r)), (1, .pointer (some ⟨b1, 0, none⟩))]) (fun _ => [(b1, .cells (recV r).cells 30 (0, 0))]) (fun _ => True) ?_ ?_
  · refine pn_draw [1, 7, 10, 11, 15, 20] [] [0] rfl (by kernel_rfl) (by kernel_rfl) rfl rfl ?_
    refine TE_q rfl rfl (RD.fieldAddr (o := 0) Tryd.runUnderlying30 rfl rfl Tryd.sizeOf23 rfl) rfl ?_
    refine TE_q rfl rfl (RD.loadA (i := 0) Tryd.isAgg23 Tryd.sizeOf23 rfl rfl (Nat.le_of_ble_eq_true rfl) (rec_dot _)) rfl ?_
    refine TE_call rfl rfl trivial Tryd.call47 rfl rfl rfl (fun w hs' => c_r5Check r.s r.c w) ?_
    rintro v6 H2 ⟨rfl, rfl⟩ -
    refine TE_q rfl rfl (RD.neq rfl rfl) rfl ?_
    refine TE_q rfl rfl (RD.move rfl) rfl ?_
    (first | refine TE_isT ?_ | refine TE_isF ?_ | refine TE_dec (fun h104 => ?_) (fun h104 => ?_) | refine TE_ndec (fun h104 => ?_) (fun h104 => ?_) | refine TE_bool (fun h104 => ?_) (fun h104 => ?_))
    all_goals (first | (refine TE_s rfl rfl rfl rfl rfl ?_) | (refine TE_gq rfl rfl rfl rfl (RD.fieldAddr (o := 0) Tryd.runUnderlying30 rfl rfl Tryd.sizeOf23 rfl) rfl ?_))
    all_goals (first | (refine TE_s rfl rfl rfl rfl rfl ?_) | (refine TE_gq rfl rfl rfl rfl (RD.fieldAddr (o := 0) Tryd.runUnderlying23 rfl rfl Tryd.sizeOf3 rfl) rfl ?_))
    all_goals (first | (refine TE_s rfl rfl rfl rfl rfl ?_) | (refine TE_gq rfl rfl rfl rfl (RD.load (i := 0) Tryd.isAgg3 rfl rfl rfl) rfl ?_))
    all_goals (first | (refine TE_s rfl rfl rfl rfl rfl ?_) | (refine TE_gq rfl rfl rfl rfl (RD.fieldAddr (o := 2) Tryd.runUnderlying30 rfl rfl Tryd.sizeOf26 rfl) rfl ?_))
    all_goals (first | (refine TE_s rfl rfl rfl rfl rfl ?_) | (refine TE_gq rfl rfl rfl rfl (RD.indexAddrA Tryd.runUnderlying26 Tryd.sizeOf24 rfl rfl (by have := dotOk_iff.1 (err0 h104); omega) (by have := dotOk_iff.1 (err0 h104); omega)) rfl ?_))
    all_goals (first | (refine TE_s rfl rfl rfl rfl rfl ?_) | (refine TE_gq rfl rfl rfl rfl (RD.load (i := 0) Tryd.isAgg24 rfl rfl (rec_ctx_get (by have := dotOk_iff.1 (err0 h104); omega) (by have := dotOk_iff.1 (err0 h104); omega))) rfl ?_))
    all_goals (first | (refine TE_s rfl rfl rfl rfl rfl ?_) | (refine TE_gq rfl rfl rfl rfl (RD.convI Tryd.runUnderlying24 Tryd.runUnderlying3 rfl (by omega) (by omega)) rfl ?_))
    all_goals (first | (refine TE_s rfl rfl rfl rfl rfl ?_) | (refine TE_gq rfl rfl rfl rfl (RD.addI rfl rfl (by omega) (by omega)) rfl ?_))
    all_goals (first | (refine TE_s rfl rfl rfl rfl rfl ?_) | (refine TE_gq rfl rfl rfl rfl (RD.fieldAddr (o := 0) Tryd.runUnderlying30 rfl rfl Tryd.sizeOf23 rfl) rfl ?_))
    all_goals (first | (refine TE_s rfl rfl rfl rfl rfl ?_) | (refine TE_gq rfl rfl rfl rfl (RD.fieldAddr (o := 1) Tryd.runUnderlying23 rfl rfl Tryd.sizeOf3 rfl) rfl ?_))
    all_goals (first | (refine TE_s rfl rfl rfl rfl rfl ?_) | (refine TE_gq rfl rfl rfl rfl (RD.load (i := 0) Tryd.isAgg3 rfl rfl rfl) rfl ?_))
    all_goals (first | (refine TE_s rfl rfl rfl rfl rfl ?_) | (refine TE_gq rfl rfl rfl rfl (RD.neq rfl rfl) rfl ?_))
    all_goals (first | (refine TE_q rfl rfl (RD.pickT rfl rfl) rfl ?_) | (refine TE_q rfl rfl (RD.pickF rfl rfl) rfl ?_))
    all_goals refine TE_q rfl rfl (RD.move rfl) rfl ?_
    all_goals (first | refine TE_isT ?_ | refine TE_isF ?_ | refine TE_dec (fun h118 => ?_) (fun h118 => ?_) | refine TE_ndec (fun h118 => ?_) (fun h118 => ?_) | refine TE_bool (fun h118 => ?_) (fun h118 => ?_))
    all_goals (first | (refine TE_s rfl rfl rfl rfl rfl ?_) | (refine TE_gq rfl rfl rfl rfl (RD.fieldAddr (o := 18) Tryd.runUnderlying30 rfl rfl Tryd.sizeOf9 rfl) rfl ?_))
    all_goals (first | (refine TE_s rfl rfl rfl rfl rfl ?_) | (refine TE_gq rfl rfl rfl rfl (RD.load (i := 0) Tryd.isAgg9 rfl rfl rfl) rfl ?_))
    all_goals (first | (refine TE_s rfl rfl rfl rfl rfl ?_) | ((refine TE_call rfl rfl ⟨_, rfl, rfl⟩ Tryd.call48 rfl rfl rfl (fun w hs' => c_r4Check r.ref w) ?_; rintro v25 H21 ⟨rfl, rfl⟩ -)))
    all_goals (first | (refine TE_s rfl rfl rfl rfl rfl ?_) | (refine TE_gq rfl rfl rfl rfl (RD.neq rfl rfl) rfl ?_))
    all_goals (first | (refine TE_q rfl rfl (RD.pickT rfl rfl) rfl ?_) | (refine TE_q rfl rfl (RD.pickF rfl rfl) rfl ?_))
    all_goals refine TE_nil ?_
    all_goals (first | exact pn_give () trivial ⟨by rw [base_F1 (by assumption)]; rfl, rfl, trivial⟩ (fun w h => h) | exact pn_give () trivial ⟨by rw [base_F2 (by assumption)]; rfl, rfl, trivial⟩ (fun w h => h) | exact pn_give () trivial ⟨by rw [base_T (by assumption) (by assumption)]; rfl, rfl, trivial⟩ (fun w h => h))
  rintro - -
  refine pn_cond rfl (fun hc0 => ?_) (fun hc0 => ?_)
  · refine pn_seq ?_
    refine pn_plain [] rfl ?_
    refine TE_q rfl rfl (RD.assign rfl) rfl ?_
    refine TE_nil0 ?_
    refine pn_ret ?_
    exact pn_done rfl rfl ⟨by rw [recOk_base, show baseB r = false from by simpa using hc0]; rfl, rfl⟩ (List.nil_sublist _) (by simp)
  · refine pn_skip ?_
    refine pn_seq ?_
    refine pn_seq ?_
    refine pn_plain [] rfl ?_
    refine TE_q rfl rfl (RD.fieldAddr (o := 19) Tryd.runUnderlying30 rfl rfl Tryd.sizeOf4 rfl) rfl ?_
    refine TE_l rfl rfl trivial rfl (RD.load (i := 0) Tryd.isAgg4 rfl rfl rfl) rfl ?_
    refine TE_q rfl rfl (RD.not rfl) rfl ?_
    refine TE_nil0 ?_
    refine pn_cond rfl (fun hc1 => ?_) (fun hc1 => ?_)
    · refine pn_seq ?_
      refine pn_plain [] rfl ?_
      refine TE_q rfl rfl (RD.assign rfl) rfl ?_
      refine TE_nil0 ?_
      refine pn_block ?_
      refine pn_loop (σ := Nat) (fun i => [(3, .int .i64 (i : Int)), (1, .pointer (some ⟨b1, 0, none⟩))]) (fun _ => [(b1, .cells (recV r).cells 30 (0, 0))]) (fun i => i ≤ 32 ∧ ∀ j, j < i → r.tip j = 0) (fun i => 32 - i) 0 ⟨by decide, fun j h => absurd h (by omega)⟩ ⟨rfl, rfl, trivial⟩ (List.Sublist.refl _) ?_
      rintro i ⟨hi, hz⟩
      refine pn_seq ?_
      refine pn_seq ?_
      refine pn_plain [] rfl ?_
      refine TE_q rfl rfl (RD.move rfl) rfl ?_
      refine TE_q rfl rfl (RD.lss rfl rfl) rfl ?_
      refine TE_nil0 ?_
      first | refine pn_condD rfl (fun hc2 => ?_) (fun hc2 => ?_) | refine pn_condN rfl (fun hc2 => ?_) (fun hc2 => ?_) | refine pn_cond rfl (fun hc2 => ?_) (fun hc2 => ?_)
      · refine pn_skip ?_
        refine pn_seq ?_
        refine pn_block ?_
        refine pn_seq ?_
        refine pn_plain [] rfl ?_
        refine TE_q rfl rfl (RD.move rfl) rfl ?_
        refine TE_q rfl rfl (RD.fieldAddr (o := 20) Tryd.runUnderlying30 rfl rfl Tryd.sizeOf28 rfl) rfl ?_
        refine TE_q rfl rfl (RD.indexAddrA Tryd.runUnderlying28 Tryd.sizeOf5 rfl rfl (by omega) (by omega)) rfl ?_
        refine TE_l rfl rfl trivial rfl (RD.load (i := 0) Tryd.isAgg5 rfl rfl (rec_tip_get (by omega))) rfl ?_
        refine TE_q rfl rfl (RD.neq rfl rfl) rfl ?_
        refine TE_nil0 ?_
        first | refine pn_condD rfl (fun hc3 => ?_) (fun hc3 => ?_) | refine pn_condN rfl (fun hc3 => ?_) (fun hc3 => ?_) | refine pn_cond rfl (fun hc3 => ?_) (fun hc3 => ?_)
        · refine pn_seq ?_
          refine pn_plain [] rfl ?_
          refine TE_q rfl rfl (RD.assign rfl) rfl ?_
          refine TE_nil0 ?_
          refine pn_ret ?_
          exact pn_done rfl rfl ⟨by rw [recOk_base, tip0_F (i := i) (by omega) hc3, show r.has = false from by simpa using hc1]; simp [err, tupV], rfl⟩ (List.nil_sublist _) (by simp)
        · refine pn_skip ?_
          refine pn_plain [] rfl ?_
          refine TE_q rfl rfl (RD.move rfl) rfl ?_
          refine TE_q rfl rfl (RD.addI rfl rfl (by omega) (by omega)) rfl ?_
          refine TE_q rfl rfl (RD.assign rfl) rfl ?_
          refine TE_nil0 ?_
          (exact pn_again (i + 1) ⟨by omega, fun j h => by rcases Nat.lt_succ_iff_lt_or_eq.1 h with h | rfl; exact hz j h; exact hc3⟩ (by show 32 - (i + 1) < 32 - i; omega) ⟨rfl, rfl, trivial⟩ (List.Sublist.refl _))
      · refine pn_exit ?_
        refine pn_seq ?_
        refine pn_plain [] rfl ?_
        refine TE_q rfl rfl (RD.assign rfl) rfl ?_
        refine TE_nil0 ?_
        refine pn_ret ?_
        exact pn_done rfl rfl ⟨by rw [recOk_base, tip0_T (fun j hj => hz j (by omega)), show baseB r = true from by simpa using hc0]; simp [err, tupV], rfl⟩ (List.nil_sublist _) (by simp)
    · refine pn_skip ?_
      refine pn_seq ?_
      refine pn_plain [] rfl ?_
      refine TE_q rfl rfl (RD.assign rfl) rfl ?_
      refine TE_nil0 ?_
      refine pn_ret ?_
      exact pn_done rfl rfl ⟨by rw [recOk_base, show r.has = true from by simpa using hc1, show baseB r = true from by simpa using hc0]; rfl, rfl⟩ (List.nil_sublist _) (by simp)

set_option maxHeartbeats 4000000 in

theorem c_r12Bytes (r : Rec) (w : World) (hr : RecOk r) (hok : recOkB r = true) : Calls Tryd.prog 39 #[recV r] w (Ret w [] fun v H1 => RetB 5 v H1 (recL r)) := by
  have hdo := recOk_dot hok
  have hld := dotL_len hdo
  have hlv := vecL_len hr.ctx
  have hrl := recOk_len hok
  have hl4 : r.ref.data.toList.length = r.ref.size := by simp
  have hl3 := lebL_len64 (n := r.ref.data.toList.length) (by omega)
  have hrecT : r.has = true → recL r = dotL r.s r.c ++ vecL r.ctx ++ (lebL r.ref.data.toList.length ++ r.ref.data.toList) ++ [1] ++ tipL r.tip := fun h => by simp [recL, recH, h, lebL_small]
  have hrecF : r.has = false → recL r = dotL r.s r.c ++ vecL r.ctx ++ (lebL r.ref.data.toList.length ++ r.ref.data.toList) ++ [0] := fun h => by simp [recL, recH, h, lebL_small]
  refine fn_enter (args := [_]) Tryd.func39 rfl Tryd.ntmps39 rfl (Hp.nil w) ?_
  refine pn_seq ?_
  refine pn_plain [] rfl ?_
  refine TE_box rfl rfl trivial rfl fun b1 hb1 => ?_
  refine TE_q rfl rfl (RD.assign rfl) rfl ?_
  refine TE_nil0 ?_
  refine pn_seq ?_
  refine pn_plain [] rfl ?_
  refine TE_q rfl rfl (RD.fieldAddr (o := 0) Tryd.runUnderlying30 rfl rfl Tryd.sizeOf23 rfl) rfl ?_
  refine TE_l rfl rfl trivial rfl (RD.loadA (i := 0) Tryd.isAgg23 Tryd.sizeOf23 rfl rfl (Nat.le_of_ble_eq_true rfl) (rec_dot _)) rfl ?_
  refine TE_call rfl rfl trivial Tryd.call61 rfl rfl rfl (fun w hs' => c_r5Bytes r.s r.c w hdo) ?_
  rintro v6 H2 hr1 hX2
  refine TE_q rfl rfl (RD.assign rfl) rfl ?_
  refine TE_nil0 ?_
  refine pn_seq ?_
  obtain ⟨st, hok1, rfl, rfl⟩ := hr1.bld; refine pn_perm ((b1, .cells (recV r).cells 30 (0, 0)) :: bldM 5 (dotL r.s r.c) st) (fun w h => h.perm List.perm_append_comm) ?_
  refine pn_plain [] rfl ?_
  refine TE_q rfl rfl (RD.move rfl) rfl ?_
  refine TE_q rfl rfl (RD.fieldAddr (o := 2) Tryd.runUnderlying30 rfl rfl Tryd.sizeOf26 rfl) rfl ?_
  refine TE_l rfl rfl trivial rfl (RD.loadA (i := 0) Tryd.isAgg26 Tryd.sizeOf26 rfl rfl (Nat.le_of_ble_eq_true rfl) (rec_ctx' _)) rfl ?_
  refine TE_call rfl rfl trivial Tryd.call62 rfl rfl rfl (fun w hs' => c_r6Enc r.ctx w hr.ctx) ?_
  rintro v10 H3 hr2 hX3
  refine TE_appendO (st := st) (l := dotL r.s r.c) (ys := vecL r.ctx) (H3 ++ [(b1, .cells (recV r).cells 30 (0, 0))]) [] (by simp) rfl rfl trivial rfl Tryd.underlying35 elByteR rfl rfl rfl hok1 (hr2.bytes.mono (fun w h => h.left.left)) (by first | omega | (simp only [List.length_append]; omega) | (simp only [List.length_append, List.length_cons, List.length_nil]; omega) | (simp only [List.length_append, List.length_cons, List.length_nil, tipL_len]; omega)) (fun e he => .inl (hX2 e he)) ?_
  intro st2 hok2 hX5
  refine TE_q rfl rfl (RD.assign rfl) rfl ?_
  refine TE_nil0 ?_
  refine pn_seq ?_
  refine pn_perm ((b1, .cells (recV r).cells 30 (0, 0)) :: bldM 5 (dotL r.s r.c ++ vecL r.ctx) st2) (fun w h => by rw [List.append_nil, List.append_assoc] at h; exact (h.right)) ?_
  refine pn_plain [] rfl ?_
  refine TE_q rfl rfl (RD.move rfl) rfl ?_
  refine TE_q rfl rfl (RD.fieldAddr (o := 18) Tryd.runUnderlying30 rfl rfl Tryd.sizeOf9 rfl) rfl ?_
  refine TE_l rfl rfl trivial rfl (RD.load (i := 0) Tryd.isAgg9 rfl rfl rfl) rfl ?_
  refine TE_strBytes rfl rfl trivial rfl Tryd.underlying9 Tryd.underlying35 Tryd.underlying5 rfl fun bc capc tlc fzc hbc => ?_
  refine TE_call rfl rfl trivial Tryd.call63 rfl rfl rfl (fun w hs' => c_rBytes [(bc, .cells (bcells r.ref.data.toList ++ tlc).toArray 5 fzc)] _ r.ref.data.toList w (BytesIn.blk (i := 0) (tl := tlc) rfl) (by omega) (hs'.hp.left.sub (.cons_cons _ (List.nil_sublist _)))) ?_
  rintro v16 H4 hr3 hX4
  refine TE_appendO (st := st2) (l := dotL r.s r.c ++ vecL r.ctx) (ys := lebL r.ref.data.toList.length ++ r.ref.data.toList) (H4 ++ [(bc, .cells (bcells r.ref.data.toList ++ tlc).toArray 5 fzc), (b1, .cells (recV r).cells 30 (0, 0))]) [] (by simp) rfl rfl trivial rfl Tryd.underlying35 elByteR rfl rfl rfl hok2 (hr3.bytes.mono (fun w h => h.left.left)) (by first | omega | (simp only [List.length_append]; omega) | (simp only [List.length_append, List.length_cons, List.length_nil]; omega) | (simp only [List.length_append, List.length_cons, List.length_nil, tipL_len]; omega)) hX5 ?_
  intro st3 hok3 hX6
  refine TE_q rfl rfl (RD.assign rfl) rfl ?_
  refine TE_nil0 ?_
  refine pn_seq ?_
  refine pn_seq ?_
  refine pn_perm ((b1, .cells (recV r).cells 30 (0, 0)) :: bldM 5 (dotL r.s r.c ++ vecL r.ctx ++ (lebL r.ref.data.toList.length ++ r.ref.data.toList)) st3) (fun w h => by rw [List.append_nil, List.append_assoc] at h; exact (h.right.sub (List.sublist_cons_self _ _))) ?_
  refine pn_plain [] rfl ?_
  refine TE_q rfl rfl (RD.fieldAddr (o := 19) Tryd.runUnderlying30 rfl rfl Tryd.sizeOf4 rfl) rfl ?_
  refine TE_l rfl rfl trivial rfl (RD.load (i := 0) Tryd.isAgg4 rfl rfl rfl) rfl ?_
  refine TE_q rfl rfl (RD.not rfl) rfl ?_
  refine TE_nil0 ?_
  refine pn_cond rfl (fun hc0 => ?_) (fun hc0 => ?_)
  · refine pn_seq ?_
    refine pn_plain [] rfl ?_
    refine TE_q rfl rfl (RD.move rfl) rfl ?_
    refine TE_buildSlice (cells := #[bcell 0]) rfl Tryd.runUnderlying35 Tryd.sizeOf5 Tryd.zeroValue5 rfl rfl rfl (by kernel_rfl) trivial rfl fun bv hbv => ?_
    refine TE_appendO (st := st3) (l := dotL r.s r.c ++ vecL r.ctx ++ (lebL r.ref.data.toList.length ++ r.ref.data.toList)) (ys := [0]) ([(bv, .cells #[bcell 0] 5 (0, 0)), (b1, .cells (recV r).cells 30 (0, 0))]) [] (by simp) rfl rfl trivial rfl Tryd.underlying35 elByteR rfl rfl rfl hok3 (BytesIn.blk' (i := 0) (tl := []) rfl rfl rfl) (by first | omega | (simp only [List.length_append]; omega) | (simp only [List.length_append, List.length_cons, List.length_nil]; omega) | (simp only [List.length_append, List.length_cons, List.length_nil, tipL_len]; omega)) hX6 ?_
    intro st5 hok5 hX8
    refine TE_q rfl rfl (RD.assign rfl) rfl ?_
    refine TE_nil0 ?_
    refine pn_ret ?_
    rw [hrecF (by simpa using hc0)]; exact pn_doneF rfl ⟨_, _, rfl, rfl, rfl⟩ (RetB.of_bld hok5) (fun w h => by rw [List.append_nil] at h; exact h.right) (where_ hX8)
  · refine pn_skip ?_
    refine pn_seq ?_
    refine pn_plain [] rfl ?_
    refine TE_q rfl rfl (RD.move rfl) rfl ?_
    refine TE_buildSlice (cells := #[bcell 1]) rfl Tryd.runUnderlying35 Tryd.sizeOf5 Tryd.zeroValue5 rfl rfl rfl (by kernel_rfl) trivial rfl fun bv hbv => ?_
    refine TE_appendO (st := st3) (l := dotL r.s r.c ++ vecL r.ctx ++ (lebL r.ref.data.toList.length ++ r.ref.data.toList)) (ys := [1]) ([(bv, .cells #[bcell 1] 5 (0, 0)), (b1, .cells (recV r).cells 30 (0, 0))]) [] (by simp) rfl rfl trivial rfl Tryd.underlying35 elByteR rfl rfl rfl hok3 (BytesIn.blk' (i := 0) (tl := []) rfl rfl rfl) (by first | omega | (simp only [List.length_append]; omega) | (simp only [List.length_append, List.length_cons, List.length_nil]; omega) | (simp only [List.length_append, List.length_cons, List.length_nil, tipL_len]; omega)) hX6 ?_
    intro st4 hok4 hX7
    refine TE_q rfl rfl (RD.assign rfl) rfl ?_
    refine TE_nil0 ?_
    refine pn_seq ?_
    refine pn_perm ((b1, .cells (recV r).cells 30 (0, 0)) :: bldM 5 (dotL r.s r.c ++ vecL r.ctx ++ (lebL r.ref.data.toList.length ++ r.ref.data.toList) ++ [1]) st4) (fun w h => by rw [List.append_nil] at h; exact h.sub (List.sublist_cons_self _ _)) ?_
    refine pn_plain [] rfl ?_
    refine TE_q rfl rfl (RD.move rfl) rfl ?_
    refine TE_q rfl rfl (RD.fieldAddr (o := 20) Tryd.runUnderlying30 rfl rfl Tryd.sizeOf28 rfl) rfl ?_
    refine TE_q rfl rfl (RD.sliceA Tryd.runUnderlying28 Tryd.sizeOf5 rfl rfl (Nat.le_refl _)) rfl ?_
    refine TE_appendO (st := st4) (l := dotL r.s r.c ++ vecL r.ctx ++ (lebL r.ref.data.toList.length ++ r.ref.data.toList) ++ [1]) (ys := tipL r.tip) ([(b1, .cells (recV r).cells 30 (0, 0))]) [] (by simp) rfl rfl trivial rfl Tryd.underlying35 elByteR rfl rfl rfl hok4 (tip_bytes (i := 0) hr.tip rfl) (by first | omega | (simp only [List.length_append]; omega) | (simp only [List.length_append, List.length_cons, List.length_nil]; omega) | (simp only [List.length_append, List.length_cons, List.length_nil, tipL_len]; omega)) hX7 ?_
    intro st5 hok5 hX8
    refine TE_q rfl rfl (RD.assign rfl) rfl ?_
    refine TE_nil0 ?_
    refine pn_ret ?_
    rw [hrecT (by simpa using hc0)]; exact pn_doneF rfl ⟨_, _, rfl, rfl, rfl⟩ (RetB.of_bld hok5) (fun w h => by rw [List.append_nil] at h; exact h.right) (where_ hX8)

theorem c_r12Enc (r : Rec) (w : World) (hr : RecOk r) : Calls Tryd.prog 16 #[recV r] w (Ret w [] fun v H1 => (recOkB r = true ∧ ∃ x, v = .tuple #[x, .int .i64 0] ∧ RetB 5 x H1 (recL r)) ∨ (recOkB r = false ∧ v = .tuple #[.slice none 0 0, .int .i64 120] ∧ H1 = [])) := by
  refine fn_enter (args := [_]) Tryd.func16 rfl Tryd.ntmps16 rfl (Hp.nil w) ?_
  refine pn_seq ?_
  refine pn_plain [] rfl ?_
  refine TE_box rfl rfl trivial rfl fun b1 hb1 => ?_
  refine TE_q rfl rfl (RD.assign rfl) rfl ?_
  refine TE_q rfl rfl (RD.assign rfl) rfl ?_
  refine TE_nil0 ?_
  refine pn_seq ?_
  refine pn_seq ?_
  refine pn_plain [] rfl ?_
  refine TE_l rfl rfl trivial rfl (RD.loadA (i := 0) Tryd.isAgg30 Tryd.sizeOf30 rfl rfl (Nat.le_of_ble_eq_true rfl) (rec_all _)) rfl ?_
  refine TE_call rfl rfl trivial Tryd.call20 rfl rfl rfl (fun w hs' => c_r12Check r w hr) ?_
  rintro v5 H1 ⟨rfl, rfl⟩ -
  refine TE_q rfl rfl (RD.neq rfl rfl) rfl ?_
  refine TE_nil0 ?_
  first | refine pn_condD rfl (fun hc0 => ?_) (fun hc0 => ?_) | refine pn_condN rfl (fun hc0 => ?_) (fun hc0 => ?_) | refine pn_cond rfl (fun hc0 => ?_) (fun hc0 => ?_)
  · refine pn_seq ?_
    refine pn_plain [] rfl ?_
    refine TE_q rfl rfl (RD.assign rfl) rfl ?_
    refine TE_q rfl rfl (RD.assign rfl) rfl ?_
    refine TE_nil0 ?_
    refine pn_ret ?_
    exact pn_done rfl rfl (.inr ⟨err1 hc0, rfl, rfl⟩) (List.nil_sublist _) (by simp)
  · refine pn_skip ?_
    refine pn_seq ?_
    refine pn_plain [] rfl ?_
    refine TE_l rfl rfl trivial rfl (RD.loadA (i := 0) Tryd.isAgg30 Tryd.sizeOf30 rfl rfl (Nat.le_of_ble_eq_true rfl) (rec_all _)) rfl ?_
    refine TE_call rfl rfl trivial Tryd.call39 rfl rfl rfl (fun w hs' => c_r12Bytes r w hr (err0 hc0)) ?_
    rintro v8 H1 hres hX3
    refine TE_q rfl rfl (RD.assign rfl) rfl ?_
    refine TE_q rfl rfl (RD.assign rfl) rfl ?_
    refine TE_nil0 ?_
    refine pn_ret ?_
    exact pn_done rfl rfl (.inl ⟨err0 hc0, _, rfl, hres⟩) (List.sublist_append_left _ _) (fun e he => .inr (hX3 e he))

end Go.Proofs.YthagkkmbbncclaaDoor
