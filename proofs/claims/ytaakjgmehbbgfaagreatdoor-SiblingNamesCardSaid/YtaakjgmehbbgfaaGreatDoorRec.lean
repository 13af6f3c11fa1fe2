import Derived.Test.YtaakjgmehbbgfaaGreatDoorRf5
import Derived.Test.YtaakjgmehbbgfaaGreatDoorProg
import Derived.Test.YtaakjgmehbbgfaaGreatDoorMvB
import Derived.Test.YtaakjgmehbbgfaaGreatDoorDot
namespace Go.Proofs.YtaakjgmehbbgfaaGreatDoor
open Go Go.Mv
set_option maxRecDepth 8000
theorem info_u8 : Tryz.prog.info? 5 = some Tryz.t5 := by kernel_rfl
theorem cells_u8 : Tryz.prog.cellsOf 5 = 1 := by kernel_rfl
theorem eq_id (f g : Nat → Int) (w : World) : (Op.equalIn 10000 38 (.agg (idV f).cells) (.agg (idV g).cells)).run Tryz.prog w = .ok (sameN 32 f g) w :=
  eqIn_ints (d := 9998) (k := .u8) Tryz.underlying38 info_u8 Tryz.underlying5 Tryz.isAgg5 cells_u8 (fun _ hi => ⟨id_at f hi, id_at g hi⟩) w
theorem build_id0 (w : World) : (Instr.build 38 #[]).run Tryz.prog w = .ok (idV fun _ => 0) w := by
  simp [Instr.build, Tryz.zeroValue38, Tryz.runUnderlying38, Tryz.sizeOf5, Value.cells, Instr.fill, idV]
def tip0 (r : Rec) : Bool := sameN 32 r.tip fun _ => 0
/-- P12.1: a record that may be. -/
def recOkB (r : Rec) : Bool := dotOk r.s r.c && decide (r.ctx r.s.toNat = r.c - 1) && decide (breaksN r.ref = 0) && (r.has || tip0 r)
theorem recOk_T {r : Rec} (h1 : err (dotOk r.s r.c) 50 = 0) (h2 : r.ctx r.s.toNat = r.c - 1) (h3 : err (decide (breaksN r.ref = 0)) 40 = 0) (h4 : (!r.has) = false ∨ tip0 r = true) : recOkB r = true := by
  have h4' : (r.has || tip0 r) = true := by rcases h4 with h | h <;> simp_all
  simp only [recOkB, err0 h1, h2, err0 h3, h4', decide_true, Bool.and_self]
theorem recOk_F1 {r : Rec} (h1 : ¬ err (dotOk r.s r.c) 50 = 0) : recOkB r = false := by simp [recOkB, err1 h1]
theorem recOk_F2 {r : Rec} (h2 : ¬ r.ctx r.s.toNat = r.c - 1) : recOkB r = false := by simp [recOkB, h2]
theorem recOk_F3 {r : Rec} (h3 : ¬ err (decide (breaksN r.ref = 0)) 40 = 0) : recOkB r = false := by simp only [recOkB, err1 h3, Bool.and_false, Bool.false_and]
theorem recOk_F4 {r : Rec} (h4 : (!r.has) = true) (h5 : tip0 r = false) : recOkB r = false := by
  have : r.has = false := by simpa using h4
  simp only [recOkB, this, h5, Bool.or_self, Bool.and_false]

set_option maxHeartbeats 2000000 in
theorem c_recCheck (r : Rec) (g : Obj) (w : World) (hr : RecOk r) (hg : GOk g) (hs : r.ref.size < 4294967281) (hH : Hp [(0, g)] w) : Calls Tryz.prog 38 #[recV r] w (Ret w [] fun v H1 => v = .int .i64 (err (recOkB r) 120) ∧ H1 = []) := by
  have hvs := hr.ctx r.s.toNat
  have hrc := hr.c
  refine fn_enter (args := [_]) Tryz.func38 rfl Tryz.ntmps38 rfl hH ?_
  refine pn_seq ?_
  refine pn_plain [] rfl ?_
  refine TE_box rfl rfl trivial rfl fun b1 hb1 => ?_
  refine TE_q rfl rfl (RD.assign rfl) rfl ?_
  refine TE_nil0 ?_
  refine pn_seq ?_
  refine pn_seq ?_
  refine pn_draw [1, 7, 10, 11, 14, 20, 26, 30] [] [0, 1] rfl (by kernel_rfl) (by kernel_rfl) rfl rfl ?_
  refine TE_q rfl rfl (RD.fieldAddr (o := 0) Tryz.runUnderlying40 rfl rfl Tryz.sizeOf33 rfl) rfl ?_
  refine TE_q rfl rfl (RD.loadA (i := 0) Tryz.isAgg33 Tryz.sizeOf33 rfl rfl (Nat.le_of_ble_eq_true rfl) (rec_dot _)) rfl ?_
  refine TE_call rfl rfl trivial Tryz.call56 rfl rfl rfl (fun w hs' => c_dotCheck _ _ w) ?_
  rintro v5 H2 ⟨rfl, rfl⟩ -
  refine TE_q rfl rfl (RD.neq rfl rfl) rfl ?_
  refine TE_q rfl rfl (RD.move rfl) rfl ?_
  (first | refine TE_isT ?_ | refine TE_isF ?_ | refine TE_dec (fun h104 => ?_) (fun h104 => ?_) | refine TE_ndec (fun h104 => ?_) (fun h104 => ?_) | refine TE_bool (fun h104 => ?_) (fun h104 => ?_))
  all_goals (first | (refine TE_s rfl rfl rfl rfl rfl ?_) | (refine TE_gq rfl rfl rfl rfl (RD.fieldAddr (o := 0) Tryz.runUnderlying40 rfl rfl Tryz.sizeOf33 rfl) rfl ?_))
  all_goals (first | (refine TE_s rfl rfl rfl rfl rfl ?_) | (refine TE_gq rfl rfl rfl rfl (RD.fieldAddr (o := 0) Tryz.runUnderlying33 rfl rfl Tryz.sizeOf3 rfl) rfl ?_))
  all_goals (first | (refine TE_s rfl rfl rfl rfl rfl ?_) | (refine TE_gq rfl rfl rfl rfl (RD.load (i := 0) Tryz.isAgg3 rfl rfl rfl) rfl ?_))
  all_goals (first | (refine TE_s rfl rfl rfl rfl rfl ?_) | (refine TE_gq rfl rfl rfl rfl (RD.fieldAddr (o := 2) Tryz.runUnderlying40 rfl rfl Tryz.sizeOf36 rfl) rfl ?_))
  all_goals (first | (refine TE_s rfl rfl rfl rfl rfl ?_) | (refine TE_gq rfl rfl rfl rfl (RD.indexAddrA Tryz.runUnderlying36 Tryz.sizeOf34 rfl rfl (by have := dotOk_iff.1 (err0 h104); omega) (by have := dotOk_iff.1 (err0 h104); omega)) rfl ?_))
  all_goals (first | (refine TE_s rfl rfl rfl rfl rfl ?_) | (refine TE_gq rfl rfl rfl rfl (RD.load (i := 0) Tryz.isAgg34 rfl rfl (rec_ctx_get (by have := dotOk_iff.1 (err0 h104); omega) (by have := dotOk_iff.1 (err0 h104); omega))) rfl ?_))
  all_goals (first | (refine TE_s rfl rfl rfl rfl rfl ?_) | (refine TE_gq rfl rfl rfl rfl (RD.convI Tryz.runUnderlying34 Tryz.runUnderlying3 rfl (by omega) (by omega)) rfl ?_))
  all_goals (first | (refine TE_s rfl rfl rfl rfl rfl ?_) | (refine TE_gq rfl rfl rfl rfl (RD.fieldAddr (o := 0) Tryz.runUnderlying40 rfl rfl Tryz.sizeOf33 rfl) rfl ?_))
  all_goals (first | (refine TE_s rfl rfl rfl rfl rfl ?_) | (refine TE_gq rfl rfl rfl rfl (RD.fieldAddr (o := 1) Tryz.runUnderlying33 rfl rfl Tryz.sizeOf3 rfl) rfl ?_))
  all_goals (first | (refine TE_s rfl rfl rfl rfl rfl ?_) | (refine TE_gq rfl rfl rfl rfl (RD.load (i := 0) Tryz.isAgg3 rfl rfl rfl) rfl ?_))
  all_goals (first | (refine TE_s rfl rfl rfl rfl rfl ?_) | (refine TE_gq rfl rfl rfl rfl (RD.subI rfl rfl (by have := dotOk_iff.1 (err0 h104); omega) (by have := dotOk_iff.1 (err0 h104); omega)) rfl ?_))
  all_goals (first | (refine TE_s rfl rfl rfl rfl rfl ?_) | (refine TE_gq rfl rfl rfl rfl (RD.neq rfl rfl) rfl ?_))
  all_goals (first | (refine TE_q rfl rfl (RD.pickT rfl rfl) rfl ?_) | (refine TE_q rfl rfl (RD.pickF rfl rfl) rfl ?_))
  all_goals refine TE_q rfl rfl (RD.move rfl) rfl ?_
  all_goals (first | refine TE_isT ?_ | refine TE_isF ?_ | refine TE_dec (fun h118 => ?_) (fun h118 => ?_) | refine TE_ndec (fun h118 => ?_) (fun h118 => ?_) | refine TE_bool (fun h118 => ?_) (fun h118 => ?_))
  all_goals (first | (refine TE_s rfl rfl rfl rfl rfl ?_) | (refine TE_gq rfl rfl rfl rfl (RD.fieldAddr (o := 18) Tryz.runUnderlying40 rfl rfl Tryz.sizeOf9 rfl) rfl ?_))
  all_goals (first | (refine TE_s rfl rfl rfl rfl rfl ?_) | (refine TE_gq rfl rfl rfl rfl (RD.load (i := 0) Tryz.isAgg9 rfl rfl rfl) rfl ?_))
  all_goals (first | (refine TE_s rfl rfl rfl rfl rfl ?_) | ((refine TE_call rfl rfl ⟨_, rfl, rfl⟩ Tryz.call48 rfl rfl rfl (fun w hs' => c_refCheck r.ref g w hg hs (hs'.hp.sub (List.Sublist.cons _ (List.Sublist.refl _)))) ?_; rintro v24 H21 ⟨rfl, rfl⟩ -)))
  all_goals (first | (refine TE_s rfl rfl rfl rfl rfl ?_) | (refine TE_gq rfl rfl rfl rfl (RD.neq rfl rfl) rfl ?_))
  all_goals (first | (refine TE_q rfl rfl (RD.pickT rfl rfl) rfl ?_) | (refine TE_q rfl rfl (RD.pickF rfl rfl) rfl ?_))
  all_goals refine TE_q rfl rfl (RD.move rfl) rfl ?_
  all_goals (first | refine TE_isT ?_ | refine TE_isF ?_ | refine TE_dec (fun h124 => ?_) (fun h124 => ?_) | refine TE_ndec (fun h124 => ?_) (fun h124 => ?_) | refine TE_bool (fun h124 => ?_) (fun h124 => ?_))
  all_goals (first | (refine TE_s rfl rfl rfl rfl rfl ?_) | (refine TE_gq rfl rfl rfl rfl (RD.fieldAddr (o := 19) Tryz.runUnderlying40 rfl rfl Tryz.sizeOf4 rfl) rfl ?_))
  all_goals (first | (refine TE_s rfl rfl rfl rfl rfl ?_) | (refine TE_gq rfl rfl rfl rfl (RD.load (i := 0) Tryz.isAgg4 rfl rfl rfl) rfl ?_))
  all_goals (first | (refine TE_s rfl rfl rfl rfl rfl ?_) | (refine TE_gq rfl rfl rfl rfl (RD.not rfl) rfl ?_))
  all_goals (first | (refine TE_s rfl rfl rfl rfl rfl ?_) | (refine TE_gq rfl rfl rfl rfl (RD.move rfl) rfl ?_))
  all_goals (first | refine TE_isT ?_ | refine TE_isF ?_ | refine TE_dec (fun h128 => ?_) (fun h128 => ?_) | refine TE_ndec (fun h128 => ?_) (fun h128 => ?_) | refine TE_bool (fun h128 => ?_) (fun h128 => ?_) | skip)
  all_goals (first | (refine TE_s rfl rfl rfl rfl rfl ?_) | (refine TE_su rfl rfl rfl rfl ?_) | (refine TE_gq rfl rfl rfl rfl (RD.fieldAddr (o := 20) Tryz.runUnderlying40 rfl rfl Tryz.sizeOf38 rfl) rfl ?_))
  all_goals (first | (refine TE_s rfl rfl rfl rfl rfl ?_) | (refine TE_su rfl rfl rfl rfl ?_) | (refine TE_gq rfl rfl rfl rfl (RD.loadA (i := 0) Tryz.isAgg38 Tryz.sizeOf38 rfl rfl (Nat.le_of_ble_eq_true rfl) (rec_tip' _)) rfl ?_))
  all_goals (first | (refine TE_s rfl rfl rfl rfl rfl ?_) | (refine TE_su rfl rfl rfl rfl ?_) | (refine TE_gq rfl rfl rfl rfl (RD.build (vs := []) rfl build_id0) rfl ?_))
  all_goals (first | (refine TE_s rfl rfl rfl rfl rfl ?_) | (refine TE_su rfl rfl rfl rfl ?_) | (refine TE_gq rfl rfl rfl rfl (RD.neq_agg Tryz.eqGuardType38 (eq_id r.tip fun _ => 0) rfl rfl) rfl ?_))
  all_goals (first | (refine TE_s rfl rfl rfl rfl rfl ?_) | (refine TE_gq rfl rfl rfl rfl (RD.pickT rfl rfl) rfl ?_) | (refine TE_gq rfl rfl rfl rfl (RD.pickF rfl rfl) rfl ?_))
  all_goals (first | (refine TE_q rfl rfl (RD.pickT rfl rfl) rfl ?_) | (refine TE_q rfl rfl (RD.pickF rfl rfl) rfl ?_))
  all_goals refine TE_nil ?_
  all_goals first
    | (
        refine pn_condT rfl ?_
        refine pn_seq ?_
        refine pn_plain [] rfl ?_
        refine TE_q rfl rfl (RD.assign rfl) rfl ?_
        refine TE_nil0 ?_
        refine pn_ret ?_
        first | exact pn_done rfl rfl ⟨by rw [recOk_F1 (by assumption)]; rfl, rfl⟩ (List.nil_sublist _) (by simp) | exact pn_done rfl rfl ⟨by rw [recOk_F2 (by assumption)]; rfl, rfl⟩ (List.nil_sublist _) (by simp) | exact pn_done rfl rfl ⟨by rw [recOk_F3 (by assumption)]; rfl, rfl⟩ (List.nil_sublist _) (by simp) | exact pn_done rfl rfl ⟨by rw [recOk_F4 (by assumption) (by simpa [tip0] using hc0)]; rfl, rfl⟩ (List.nil_sublist _) (by simp) | exact pn_done rfl rfl ⟨by rw [recOk_T (by assumption) (by assumption) (by assumption) (.inl (by assumption))]; rfl, rfl⟩ (List.nil_sublist _) (by simp) | exact pn_done rfl rfl ⟨by rw [recOk_T (by assumption) (by assumption) (by assumption) (.inr (by simpa [tip0] using hc0))]; rfl, rfl⟩ (List.nil_sublist _) (by simp))
    | (
        refine pn_condF rfl ?_
        refine pn_skip ?_
        refine pn_seq ?_
        refine pn_plain [] rfl ?_
        refine TE_q rfl rfl (RD.assign rfl) rfl ?_
        refine TE_nil0 ?_
        refine pn_ret ?_
        first | exact pn_done rfl rfl ⟨by rw [recOk_F1 (by assumption)]; rfl, rfl⟩ (List.nil_sublist _) (by simp) | exact pn_done rfl rfl ⟨by rw [recOk_F2 (by assumption)]; rfl, rfl⟩ (List.nil_sublist _) (by simp) | exact pn_done rfl rfl ⟨by rw [recOk_F3 (by assumption)]; rfl, rfl⟩ (List.nil_sublist _) (by simp) | exact pn_done rfl rfl ⟨by rw [recOk_F4 (by assumption) (by simpa [tip0] using hc0)]; rfl, rfl⟩ (List.nil_sublist _) (by simp) | exact pn_done rfl rfl ⟨by rw [recOk_T (by assumption) (by assumption) (by assumption) (.inl (by assumption))]; rfl, rfl⟩ (List.nil_sublist _) (by simp) | exact pn_done rfl rfl ⟨by rw [recOk_T (by assumption) (by assumption) (by assumption) (.inr (by simpa [tip0] using hc0))]; rfl, rfl⟩ (List.nil_sublist _) (by simp))
    | (
        first | refine pn_condD rfl (fun hc0 => ?_) (fun hc0 => ?_) | refine pn_condN rfl (fun hc0 => ?_) (fun hc0 => ?_) | refine pn_cond rfl (fun hc0 => ?_) (fun hc0 => ?_)
        · refine pn_seq ?_
          refine pn_plain [] rfl ?_
          refine TE_q rfl rfl (RD.assign rfl) rfl ?_
          refine TE_nil0 ?_
          refine pn_ret ?_
          first | exact pn_done rfl rfl ⟨by rw [recOk_F1 (by assumption)]; rfl, rfl⟩ (List.nil_sublist _) (by simp) | exact pn_done rfl rfl ⟨by rw [recOk_F2 (by assumption)]; rfl, rfl⟩ (List.nil_sublist _) (by simp) | exact pn_done rfl rfl ⟨by rw [recOk_F3 (by assumption)]; rfl, rfl⟩ (List.nil_sublist _) (by simp) | exact pn_done rfl rfl ⟨by rw [recOk_F4 (by assumption) (by simpa [tip0] using hc0)]; rfl, rfl⟩ (List.nil_sublist _) (by simp) | exact pn_done rfl rfl ⟨by rw [recOk_T (by assumption) (by assumption) (by assumption) (.inl (by assumption))]; rfl, rfl⟩ (List.nil_sublist _) (by simp) | exact pn_done rfl rfl ⟨by rw [recOk_T (by assumption) (by assumption) (by assumption) (.inr (by simpa [tip0] using hc0))]; rfl, rfl⟩ (List.nil_sublist _) (by simp)
        · refine pn_skip ?_
          refine pn_seq ?_
          refine pn_plain [] rfl ?_
          refine TE_q rfl rfl (RD.assign rfl) rfl ?_
          refine TE_nil0 ?_
          refine pn_ret ?_
          first | exact pn_done rfl rfl ⟨by rw [recOk_F1 (by assumption)]; rfl, rfl⟩ (List.nil_sublist _) (by simp) | exact pn_done rfl rfl ⟨by rw [recOk_F2 (by assumption)]; rfl, rfl⟩ (List.nil_sublist _) (by simp) | exact pn_done rfl rfl ⟨by rw [recOk_F3 (by assumption)]; rfl, rfl⟩ (List.nil_sublist _) (by simp) | exact pn_done rfl rfl ⟨by rw [recOk_F4 (by assumption) (by simpa [tip0] using hc0)]; rfl, rfl⟩ (List.nil_sublist _) (by simp) | exact pn_done rfl rfl ⟨by rw [recOk_T (by assumption) (by assumption) (by assumption) (.inl (by assumption))]; rfl, rfl⟩ (List.nil_sublist _) (by simp) | exact pn_done rfl rfl ⟨by rw [recOk_T (by assumption) (by assumption) (by assumption) (.inr (by simpa [tip0] using hc0))]; rfl, rfl⟩ (List.nil_sublist _) (by simp))

end Go.Proofs.YtaakjgmehbbgfaaGreatDoor
