import Derived.Test.YtiefjfcfijcgmaaGreatDoorR4b
import Derived.Test.YtiefjfcfijcgmaaGreatDoorR5
import Derived.Test.YtiefjfcfijcgmaaGreatDoorRc2
import Derived.Test.YtiefjfcfijcgmaaGreatDoorMvB
import Derived.Test.YtiefjfcfijcgmaaGreatDoorEqr
import Derived.Test.YtiefjfcfijcgmaaGreatDoorMvC
namespace Go.Proofs.YtiefjfcfijcgmaaGreatDoor
open Go Go.Mv
set_option maxRecDepth 8000
def baseB (r : Rec) : Bool := dotOk r.s r.c && decide (r.ctx r.s.toNat = r.c - 1) && decide (breaksN r.ref = 0)
theorem base_F1 {r : Rec} (h : ¬ err (dotOk r.s r.c) 50 = 0) : (!baseB r) = true := by simp [baseB, err1 h]
theorem base_F2 {r : Rec} (h : ¬ r.ctx r.s.toNat + 1 = r.c) : (!baseB r) = true := by
  have : ¬ r.ctx r.s.toNat = r.c - 1 := by omega
  simp [baseB, this]
theorem base_T {r : Rec} (h1 : err (dotOk r.s r.c) 50 = 0) (h2 : r.ctx r.s.toNat + 1 = r.c) : (!baseB r) = !decide (err (decide (breaksN r.ref = 0)) 40 = 0) := by
  have h3 : r.ctx r.s.toNat = r.c - 1 := by omega
  simp only [baseB, err0 h1, h3, decide_true, Bool.true_and]
  by_cases hb : breaksN r.ref = 0
  · simp [hb, err]
  · simp [hb, err]
theorem recOk_base {r : Rec} : recOkB r = (baseB r && (r.has || tip0 r)) := rfl
theorem rec_tip_get {r : Rec} {i : Nat} (h : i < 32) : cget (recV r).cells (20 + (i : Int).toNat * 1) = some (.int .u8 (r.tip i)) := by
  rw [cget_eq, Int.toNat_natCast, Nat.mul_one]; exact rec_tip_at r h
theorem tip0_T {r : Rec} (h : ∀ i, i < 32 → r.tip i = 0) : tip0 r = true := sameN_iff.2 h
theorem tip0_F {r : Rec} {i : Nat} (hi : i < 32) (h : ¬ r.tip i = 0) : tip0 r = false := by
  cases ht : tip0 r with
  | false => rfl
  | true => exact absurd (sameN_iff.1 ht i hi) h

set_option maxHeartbeats 2000000 in
theorem c_r12Check (r : Rec) (w : World) (hr : RecOk r) : Calls Tryz.prog 43 #[recV r] w (Ret w [] fun v H1 => v = .int .i64 (err (recOkB r) 120) ∧ H1 = []) := by
  have hvs := hr.ctx r.s.toNat
  have hrc := hr.c
  have hrs := hr.s
  refine fn_enter (args := [_]) Tryz.func43 rfl Tryz.ntmps43 rfl (Hp.nil w) ?_
  refine pn_seq ?_
  refine pn_plain [] rfl ?_
  refine TE_box rfl rfl trivial rfl fun b1 hb1 => ?_
  refine TE_q rfl rfl (RD.assign rfl) rfl ?_
  refine TE_nil0 ?_
  refine pn_seq ?_
  refine pn_seq ?_
  refine pn_cut (σ := Unit) (fun _ => [(27, .bool (!baseB r)), (1, .pointer (some ⟨b1, 0, none⟩))]) (fun _ => [(b1, .cells (recV r).cells 40 (0, 0))]) (fun _ => True) ?_ ?_
  · refine pn_draw [1, 7, 10, 11, 15, 20] [] [0] rfl (by kernel_rfl) (by kernel_rfl) rfl rfl ?_
    refine TE_q rfl rfl (RD.fieldAddr (o := 0) Tryz.runUnderlying40 rfl rfl Tryz.sizeOf33 rfl) rfl ?_
    refine TE_q rfl rfl (RD.loadA (i := 0) Tryz.isAgg33 Tryz.sizeOf33 rfl rfl (Nat.le_of_ble_eq_true rfl) (rec_dot _)) rfl ?_
    refine TE_call rfl rfl trivial Tryz.call79 rfl rfl rfl (fun w hs' => c_r5Check r.s r.c w) ?_
    rintro v6 H2 ⟨rfl, rfl⟩ -
    refine TE_q rfl rfl (RD.neq rfl rfl) rfl ?_
    refine TE_q rfl rfl (RD.move rfl) rfl ?_
    (first | refine TE_isT ?_ | refine TE_isF ?_ | refine TE_dec (fun h104 => ?_) (fun h104 => ?_) | refine TE_ndec (fun h104 => ?_) (fun h104 => ?_) | refine TE_bool (fun h104 => ?_) (fun h104 => ?_))
    all_goals (first | (refine TE_s rfl rfl rfl rfl rfl ?_) | (refine TE_gq rfl rfl rfl rfl (RD.fieldAddr (o := 0) Tryz.runUnderlying40 rfl rfl Tryz.sizeOf33 rfl) rfl ?_))
    all_goals (first | (refine TE_s rfl rfl rfl rfl rfl ?_) | (refine TE_gq rfl rfl rfl rfl (RD.fieldAddr (o := 0) Tryz.runUnderlying33 rfl rfl Tryz.sizeOf3 rfl) rfl ?_))
    all_goals (first | (refine TE_s rfl rfl rfl rfl rfl ?_) | (refine TE_gq rfl rfl rfl rfl (RD.load (i := 0) Tryz.isAgg3 rfl rfl rfl) rfl ?_))
    all_goals (first | (refine TE_s rfl rfl rfl rfl rfl ?_) | (refine TE_gq rfl rfl rfl rfl (RD.fieldAddr (o := 2) Tryz.runUnderlying40 rfl rfl Tryz.sizeOf36 rfl) rfl ?_))
    all_goals (first | (refine TE_s rfl rfl rfl rfl rfl ?_) | (refine TE_gq rfl rfl rfl rfl (RD.indexAddrA Tryz.runUnderlying36 Tryz.sizeOf34 rfl rfl (by have := dotOk_iff.1 (err0 h104); omega) (by have := dotOk_iff.1 (err0 h104); omega)) rfl ?_))
    all_goals (first | (refine TE_s rfl rfl rfl rfl rfl ?_) | (refine TE_gq rfl rfl rfl rfl (RD.load (i := 0) Tryz.isAgg34 rfl rfl (rec_ctx_get (by have := dotOk_iff.1 (err0 h104); omega) (by have := dotOk_iff.1 (err0 h104); omega))) rfl ?_))
    all_goals (first | (refine TE_s rfl rfl rfl rfl rfl ?_) | (refine TE_gq rfl rfl rfl rfl (RD.convI Tryz.runUnderlying34 Tryz.runUnderlying3 rfl (by omega) (by omega)) rfl ?_))
    all_goals (first | (refine TE_s rfl rfl rfl rfl rfl ?_) | (refine TE_gq rfl rfl rfl rfl (RD.addI rfl rfl (by omega) (by omega)) rfl ?_))
    all_goals (first | (refine TE_s rfl rfl rfl rfl rfl ?_) | (refine TE_gq rfl rfl rfl rfl (RD.fieldAddr (o := 0) Tryz.runUnderlying40 rfl rfl Tryz.sizeOf33 rfl) rfl ?_))
    all_goals (first | (refine TE_s rfl rfl rfl rfl rfl ?_) | (refine TE_gq rfl rfl rfl rfl (RD.fieldAddr (o := 1) Tryz.runUnderlying33 rfl rfl Tryz.sizeOf3 rfl) rfl ?_))
    all_goals (first | (refine TE_s rfl rfl rfl rfl rfl ?_) | (refine TE_gq rfl rfl rfl rfl (RD.load (i := 0) Tryz.isAgg3 rfl rfl rfl) rfl ?_))
    all_goals (first | (refine TE_s rfl rfl rfl rfl rfl ?_) | (refine TE_gq rfl rfl rfl rfl (RD.neq rfl rfl) rfl ?_))
    all_goals (first | (refine TE_q rfl rfl (RD.pickT rfl rfl) rfl ?_) | (refine TE_q rfl rfl (RD.pickF rfl rfl) rfl ?_))
    all_goals refine TE_q rfl rfl (RD.move rfl) rfl ?_
    all_goals (first | refine TE_isT ?_ | refine TE_isF ?_ | refine TE_dec (fun h118 => ?_) (fun h118 => ?_) | refine TE_ndec (fun h118 => ?_) (fun h118 => ?_) | refine TE_bool (fun h118 => ?_) (fun h118 => ?_))
    all_goals (first | (refine TE_s rfl rfl rfl rfl rfl ?_) | (refine TE_gq rfl rfl rfl rfl (RD.fieldAddr (o := 18) Tryz.runUnderlying40 rfl rfl Tryz.sizeOf9 rfl) rfl ?_))
    all_goals (first | (refine TE_s rfl rfl rfl rfl rfl ?_) | (refine TE_gq rfl rfl rfl rfl (RD.load (i := 0) Tryz.isAgg9 rfl rfl rfl) rfl ?_))
    all_goals (first | (refine TE_s rfl rfl rfl rfl rfl ?_) | ((refine TE_call rfl rfl ⟨_, rfl, rfl⟩ Tryz.call80 rfl rfl rfl (fun w hs' => c_r4Check r.ref w) ?_; rintro v25 H21 ⟨rfl, rfl⟩ -)))
    all_goals (first | (refine TE_s rfl rfl rfl rfl rfl ?_) | (refine TE_gq rfl rfl rfl rfl (RD.neq rfl rfl) rfl ?_))
    all_goals (first | (refine TE_q rfl rfl (RD.pickT rfl rfl) rfl ?_) | (refine TE_q rfl rfl (RD.pickF rfl rfl) rfl ?_))
    all_goals refine TE_nil ?_
    all_goals (first | exact pn_give () trivial ⟨by rw [base_F1 (by assumption)]; rfl, rfl, trivial⟩ (fun w h => h) | exact pn_give () trivial ⟨by rw [base_F2 (by assumption)]; rfl, rfl, trivial⟩ (fun w h => h) | exact pn_give () trivial ⟨by rw [base_T (by assumption) (by assumption)]; rfl, rfl, trivial⟩ (fun w h => h))
  rintro - -
  refine pn_cond rfl (fun hc0 => ?_) (fun hc0 => ?_)
  · refine pn_seq ?_
    refine pn_plain [] rfl ?_
    refine TE_q rfl rfl (RD.assign rfl) rfl ?_
    refine TE_nil0 ?_
    refine pn_ret ?_
    exact pn_done rfl rfl ⟨by rw [recOk_base, show baseB r = false from by simpa using hc0]; rfl, rfl⟩ (List.nil_sublist _) (by simp)
  · refine pn_skip ?_
    refine pn_seq ?_
    refine pn_seq ?_
    refine pn_plain [] rfl ?_
    refine TE_q rfl rfl (RD.fieldAddr (o := 19) Tryz.runUnderlying40 rfl rfl Tryz.sizeOf4 rfl) rfl ?_
    refine TE_l rfl rfl trivial rfl (RD.load (i := 0) Tryz.isAgg4 rfl rfl rfl) rfl ?_
    refine TE_q rfl rfl (RD.not rfl) rfl ?_
    refine TE_nil0 ?_
    refine pn_cond rfl (fun hc1 => ?_) (fun hc1 => ?_)
    · refine pn_seq ?_
      refine pn_plain [] rfl ?_
      refine TE_q rfl rfl (RD.assign rfl) rfl ?_
      refine TE_nil0 ?_
      refine pn_block ?_
      refine pn_loop (σ := Nat) (fun i => [(3, .int .i64 (i : Int)), (1, .pointer (some ⟨b1, 0, none⟩))]) (fun _ => [(b1, .cells (recV r).cells 40 (0, 0))]) (fun i => i ≤ 32 ∧ ∀ j, j < i → r.tip j = 0) (fun i => 32 - i) 0 ⟨by decide, fun j h => absurd h (by omega)⟩ ⟨rfl, rfl, trivial⟩ (List.Sublist.refl _) ?_
      rintro i ⟨hi, hz⟩
      refine pn_seq ?_
      refine pn_seq ?_
      refine pn_plain [] rfl ?_
      refine TE_q rfl rfl (RD.move rfl) rfl ?_
      refine TE_q rfl rfl (RD.lss rfl rfl) rfl ?_
      refine TE_nil0 ?_
      first | refine pn_condD rfl (fun hc2 => ?_) (fun hc2 => ?_) | refine pn_condN rfl (fun hc2 => ?_) (fun hc2 => ?_) | refine pn_cond rfl (fun hc2 => ?_) (fun hc2 => ?_)
      · refine pn_skip ?_
        refine pn_seq ?_
        refine pn_block ?_
        refine pn_seq ?_
        refine pn_plain [] rfl ?_
        refine TE_q rfl rfl (RD.move rfl) rfl ?_
        refine TE_q rfl rfl (RD.fieldAddr (o := 20) Tryz.runUnderlying40 rfl rfl Tryz.sizeOf38 rfl) rfl ?_
        refine TE_q rfl rfl (RD.indexAddrA Tryz.runUnderlying38 Tryz.sizeOf5 rfl rfl (by omega) (by omega)) rfl ?_
        refine TE_l rfl rfl trivial rfl (RD.load (i := 0) Tryz.isAgg5 rfl rfl (rec_tip_get (by omega))) rfl ?_
        refine TE_q rfl rfl (RD.neq rfl rfl) rfl ?_
        refine TE_nil0 ?_
        first | refine pn_condD rfl (fun hc3 => ?_) (fun hc3 => ?_) | refine pn_condN rfl (fun hc3 => ?_) (fun hc3 => ?_) | refine pn_cond rfl (fun hc3 => ?_) (fun hc3 => ?_)
        · refine pn_seq ?_
          refine pn_plain [] rfl ?_
          refine TE_q rfl rfl (RD.assign rfl) rfl ?_
          refine TE_nil0 ?_
          refine pn_ret ?_
          exact pn_done rfl rfl ⟨by rw [recOk_base, tip0_F (i := i) (by omega) hc3, show r.has = false from by simpa using hc1]; simp [err, tupV], rfl⟩ (List.nil_sublist _) (by simp)
        · refine pn_skip ?_
          refine pn_plain [] rfl ?_
          refine TE_q rfl rfl (RD.move rfl) rfl ?_
          refine TE_q rfl rfl (RD.addI rfl rfl (by omega) (by omega)) rfl ?_
          refine TE_q rfl rfl (RD.assign rfl) rfl ?_
          refine TE_nil0 ?_
          (exact pn_again (i + 1) ⟨by omega, fun j h => by rcases Nat.lt_succ_iff_lt_or_eq.1 h with h | rfl; exact hz j h; exact hc3⟩ (by show 32 - (i + 1) < 32 - i; omega) ⟨rfl, rfl, trivial⟩ (List.Sublist.refl _))
      · refine pn_exit ?_
        refine pn_seq ?_
        refine pn_plain [] rfl ?_
        refine TE_q rfl rfl (RD.assign rfl) rfl ?_
        refine TE_nil0 ?_
        refine pn_ret ?_
        exact pn_done rfl rfl ⟨by rw [recOk_base, tip0_T (fun j hj => hz j (by omega)), show baseB r = true from by simpa using hc0]; simp [err, tupV], rfl⟩ (List.nil_sublist _) (by simp)
    · refine pn_skip ?_
      refine pn_seq ?_
      refine pn_plain [] rfl ?_
      refine TE_q rfl rfl (RD.assign rfl) rfl ?_
      refine TE_nil0 ?_
      refine pn_ret ?_
      exact pn_done rfl rfl ⟨by rw [recOk_base, show r.has = true from by simpa using hc1, show baseB r = true from by simpa using hc0]; rfl, rfl⟩ (List.nil_sublist _) (by simp)

end Go.Proofs.YtiefjfcfijcgmaaGreatDoor
