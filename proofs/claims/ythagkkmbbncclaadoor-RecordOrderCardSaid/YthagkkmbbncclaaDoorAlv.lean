import Derived.Test.YthagkkmbbncclaaDoorRc3
import Derived.Test.YthagkkmbbncclaaDoorMvB
namespace Go.Proofs.YthagkkmbbncclaaDoor
open Go Go.Mv
set_option maxRecDepth 8000
def aliveRec : Rec := ⟨1, 2, fun i => bif Nat.beq i 0 then 3 else bif Nat.beq i 1 then 1 else 0, ⟨#[97]⟩, false, fun _ => 0⟩
theorem elU32 : ElI Tryd.prog 24 1 4 (.int .u32 0) := by unfold ElI; kernel_rfl
theorem build_dot (a b : Int) (w : World) : (Instr.build 23 #[(0, .int .i64 a), (1, .int .i64 b)]).run Tryd.prog w = .ok (dotV a b) w := by
  simp [Instr.build, Tryd.zeroValue23, Tryd.runUnderlying23, Tryd.sizeOf3, Value.cells, Instr.fill, dotV]
theorem alive_ok : RecOk aliveRec := ⟨⟨by decide, by decide⟩, ⟨by decide, by decide⟩, fun i => by simp only [aliveRec]; cases Nat.beq i 0 <;> cases Nat.beq i 1 <;> decide, fun i => by simp only [aliveRec]; decide⟩
theorem alive_recOk : recOkB aliveRec = true := by kernel_rfl
theorem alive_bytes : recL aliveRec = [1, 2, 2, 3, 1, 1, 97, 0] := by
  have e1 : lebL 0 = [0] := lebL_small (by decide)
  have e2 : lebL 1 = [1] := lebL_small (by decide)
  have e3 : lebL 2 = [2] := lebL_small (by decide)
  have e4 : lebL 3 = [3] := lebL_small (by decide)
  have hm : vMany aliveRec.ctx = 2 := by kernel_rfl
  have hu : vecU aliveRec.ctx 2 = [] ++ lebL 3 ++ lebL 1 := rfl
  have hd : dotL aliveRec.s aliveRec.c = lebL 1 ++ lebL 2 := rfl
  have hr : aliveRec.ref.data.toList = [97] := rfl
  have hh : aliveRec.has = false := rfl
  simp only [recL, recH, vecL, hm, hu, hd, hr, hh, cond_false, List.length_cons, List.length_nil, Nat.zero_add, e1, e2, e3, e4]
  rfl

set_option maxHeartbeats 2000000 in

theorem c_of31 (bl : Nat) (w : World) (hH : Hp [(bl, .cells #[.int .u32 3, .int .u32 1] 24 (0, 0))] w) : Calls Tryd.prog 28 #[.string ⟨#[97]⟩, .int .i64 1, .slice (some ⟨bl, 0, none⟩) 2 2] w (Ret w [] fun v H1 => v = recV aliveRec ∧ H1 = []) := by
  refine fn_enter (args := [_, _, _]) Tryd.func28 rfl Tryd.ntmps28 rfl hH ?_
  refine pn_seq ?_
  refine pn_plain [] rfl ?_
  refine TE_alloc rfl Tryd.zeroValue30 trivial rfl fun b6 hb6 => ?_
  refine TE_nil0 ?_
  refine pn_seq ?_
  refine pn_plain [] rfl ?_
  refine TE_alloc rfl Tryd.zeroValue30 trivial rfl fun b7 hb7 => ?_
  refine TE_nil0 ?_
  refine pn_seq ?_
  refine pn_plain [] rfl ?_
  refine TE_q rfl rfl (RD.move rfl) rfl ?_
  refine TE_q rfl rfl (RD.fieldAddr (o := 18) Tryd.runUnderlying30 rfl rfl Tryd.sizeOf9 rfl) rfl ?_
  refine TE_store (i := 0) rfl Tryd.sizeOf9 trivial rfl rfl rfl rfl rfl rfl (.inl (by assumption)) ?_
  refine TE_nil0 ?_
  refine pn_seq ?_
  refine pn_plain [] rfl ?_
  refine TE_q rfl rfl (RD.fieldAddr (o := 2) Tryd.runUnderlying30 rfl rfl Tryd.sizeOf26 rfl) rfl ?_
  refine TE_q rfl rfl (RD.sliceA Tryd.runUnderlying26 Tryd.sizeOf24 rfl rfl (Nat.le_refl _)) rfl ?_
  refine TE_q rfl rfl (RD.move rfl) rfl ?_
  refine TE_copy (i := 0) (cs := [.int .u32 3, .int .u32 1]) rfl rfl trivial rfl Tryd.underlying103 elU32 rfl rfl rfl (src_cells (i := 2) rfl) rfl (by decide) (by simp [Value.oneCell']) (.inl hb7) ?_
  refine TE_nil0 ?_
  refine pn_seq ?_
  refine pn_plain [5] rfl ?_
  refine TE_q rfl rfl (RD.move rfl) rfl ?_
  refine TE_q rfl rfl (RD.move rfl) rfl ?_
  refine TE_q rfl rfl (RD.fieldAddr (o := 2) Tryd.runUnderlying30 rfl rfl Tryd.sizeOf26 rfl) rfl ?_
  refine TE_q rfl rfl (RD.indexAddrA Tryd.runUnderlying26 Tryd.sizeOf24 rfl rfl (by decide) (by decide)) rfl ?_
  refine TE_l rfl rfl trivial rfl (RD.load (i := 0) Tryd.isAgg24 rfl rfl rfl) rfl ?_
  refine TE_q rfl rfl (RD.convI Tryd.runUnderlying24 Tryd.runUnderlying3 rfl (by decide) (by decide)) rfl ?_
  refine TE_q rfl rfl (RD.addI rfl rfl (by decide) (by decide)) rfl ?_
  refine TE_q rfl rfl (RD.build rfl (build_dot 1 2)) rfl ?_
  refine TE_q rfl rfl (RD.fieldAddr (o := 0) Tryd.runUnderlying30 rfl rfl Tryd.sizeOf23 rfl) rfl ?_
  refine TE_put (i := 0) rfl Tryd.sizeOf23 trivial rfl rfl rfl rfl rfl rfl (.inl (by assumption)) ?_
  refine TE_nil0 ?_
  refine pn_seq ?_
  refine pn_plain [] rfl ?_
  refine TE_l rfl rfl trivial rfl (RD.loadA (v := recV aliveRec) (i := 0) Tryd.isAgg30 Tryd.sizeOf30 rfl rfl (Nat.le_of_ble_eq_true rfl) (by kernel_rfl)) rfl ?_
  refine TE_put (i := 1) rfl Tryd.sizeOf30 trivial rfl rfl rfl rfl rfl rfl (.inl (by assumption)) ?_
  refine TE_nil0 ?_
  refine pn_ret ?_
  exact pn_doneCell (i := 1) (v := recV aliveRec) rfl rfl rfl Tryd.isAgg30 Tryd.sizeOf30 (Nat.le_of_ble_eq_true rfl) (by kernel_rfl) ⟨rfl, rfl⟩ (List.nil_sublist _) (by simp)

set_option maxHeartbeats 2000000 in

theorem c_alive (g : Obj) (w : World) (hg : GOk g) (hH : Hp [(0, g)] w) : Calls Tryd.prog 8 #[] w (Ret w [] fun v H1 => v = .bool true ∧ H1 = []) := by
  refine fn_enter (args := []) Tryd.func8 rfl Tryd.ntmps8 rfl hH ?_
  refine pn_seq ?_
  refine pn_plain [] rfl ?_
  refine TE_q rfl rfl (RD.assign rfl) rfl ?_
  refine TE_nil0 ?_
  refine pn_seq ?_
  refine pn_plain [] rfl ?_
  refine TE_buildSlice (cells := #[.int .u32 3, .int .u32 1]) rfl Tryd.runUnderlying103 Tryd.sizeOf24 Tryd.zeroValue24 rfl rfl rfl (by kernel_rfl) trivial rfl fun bl hbl => ?_
  refine TE_call rfl rfl trivial Tryd.call28 rfl rfl rfl (fun w hs' => c_of31 bl w (hs'.hp.sub (.cons_cons _ (List.nil_sublist _)))) ?_
  rintro v5 H1 ⟨rfl, rfl⟩ -
  refine TE_call rfl rfl trivial Tryd.call15 rfl rfl rfl (fun w hs' => c_recEncode aliveRec g w alive_ok hg (by decide) (hs'.hp.sub (.cons _ (.cons_cons _ (List.nil_sublist _))))) ?_
  rintro v6 H2 (⟨hok, x, rfl, hx⟩ | ⟨hok, rfl, rfl⟩) hX; rotate_left; (rw [alive_recOk] at hok; cases hok)
  refine TE_q rfl rfl (RD.move rfl) rfl ?_
  refine TE_q rfl rfl (RD.extract rfl rfl) rfl ?_
  refine TE_q rfl rfl (RD.extract rfl rfl) rfl ?_
  refine TE_q rfl rfl (RD.assign rfl) rfl ?_
  refine TE_q rfl rfl (RD.assign rfl) rfl ?_
  refine TE_nil0 ?_
  refine pn_seq ?_
  refine pn_plain [] rfl ?_
  refine TE_q rfl rfl (RD.move rfl) rfl ?_
  refine TE_q rfl rfl (RD.eql rfl rfl) rfl ?_
  refine TE_q rfl rfl (RD.move rfl) rfl ?_
  refine TE_isT ?_
  (first | refine TE_isT ?_ | refine TE_isF ?_ | refine TE_dec (fun h202 => ?_) (fun h202 => ?_) | refine TE_ndec (fun h202 => ?_) (fun h202 => ?_) | refine TE_bool (fun h202 => ?_) (fun h202 => ?_))
  all_goals (first | (refine TE_s rfl rfl rfl rfl rfl ?_) | (refine TE_gq rfl rfl rfl rfl (RD.move rfl) rfl ?_))
  all_goals (first | (refine TE_s rfl rfl rfl rfl rfl ?_) | (refine TE_l rfl rfl ⟨_, rfl, rfl⟩ rfl (RD.str_of_bytes Tryd.underlying35 Tryd.underlying9 Tryd.underlying5 rfl (hx.bytes.mono (fun w h => h.left.left))) rfl ?_))
  all_goals (first | (refine TE_s rfl rfl rfl rfl rfl ?_) | (refine TE_gq rfl rfl rfl rfl (RD.eql_string rfl rfl) rfl ?_))
  all_goals (first | (refine TE_q rfl rfl (RD.pickT rfl rfl) rfl ?_) | (refine TE_q rfl rfl (RD.pickF rfl rfl) rfl ?_))
  all_goals refine TE_q rfl rfl (RD.assign rfl) rfl ?_
  all_goals refine TE_nil0 ?_
  all_goals refine pn_ret ?_
  all_goals (exact pn_done rfl rfl ⟨by rw [show (⟨(recL aliveRec).toArray⟩ : ByteArray) = ⟨#[1, 2, 2, 3, 1, 1, 97, 0]⟩ from by rw [alive_bytes]]; rfl, rfl⟩ (List.nil_sublist _) (by simp))

end Go.Proofs.YthagkkmbbncclaaDoor
