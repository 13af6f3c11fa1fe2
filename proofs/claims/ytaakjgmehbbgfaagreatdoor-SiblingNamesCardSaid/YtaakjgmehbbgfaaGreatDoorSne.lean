import Derived.Test.YtaakjgmehbbgfaaGreatDoorSa2
namespace Go.Proofs.YtaakjgmehbbgfaaGreatDoor
open Go Go.Mv
set_option maxRecDepth 8000
theorem bd_sib0 (r : ByteArray) (w : World) : (Instr.build 56 #[(0, .string r)]).run Tryz.prog w = .ok (.agg #[.string r, .slice none 0 0]) w := by
  simp [Instr.build, Tryz.zeroValue56, Tryz.runUnderlying56, Tryz.sizeOf9, Tryz.sizeOf22, Value.cells, Instr.fill]

theorem c_sibNew (s : ByteArray) (g : Obj) (w : World) (hg : GOk g) (hs : s.size < 4294967281) (h0 : breaksN s = 0) (hH : Hp [(0, g)] w) : Calls Tryz.prog 15 #[.string s] w (Ret w [] fun r H1 => ∃ bs, r = .tuple #[.pointer (some ⟨bs, 0, none⟩), .int .i64 0] ∧ H1 = [(bs, .cells #[.string s, (.slice none 0 0)] 56 (0, 0))]) := by
  refine fn_enter (args := [_]) Tryz.func15 rfl Tryz.ntmps15 rfl hH ?_
  refine pn_seq ?_
  refine pn_plain [] rfl ?_
  refine TE_q rfl rfl (RD.assign rfl) rfl ?_
  refine TE_q rfl rfl (RD.assign rfl) rfl ?_
  refine TE_nil0 ?_
  refine pn_seq ?_
  refine pn_seq ?_
  refine pn_plain [] rfl ?_
  refine TE_q rfl rfl (RD.move rfl) rfl ?_
  refine TE_call (post := fun v H1 => v = .int .i64 0 ∧ H1 = []) rfl rfl trivial Tryz.call48 rfl rfl rfl (fun w hs' => by have h := c_refCheck s g w hg hs (hs'.hp.sp (fun a => by simp -failIfUnchanged <;> omega)); rw [decide_eq_true h0] at h; exact h) ?_
  rintro v6 H1 ⟨rfl, rfl⟩ -
  refine TE_q rfl rfl (RD.assign rfl) rfl ?_
  refine TE_nil0 ?_
  refine pn_seq ?_
  refine pn_plain [] rfl ?_
  refine TE_q rfl rfl (RD.move rfl) rfl ?_
  refine TE_q rfl rfl (RD.as (v := .bool false) (RD.neq rfl rfl) (by simp)) rfl ?_
  refine TE_nil0 ?_
  refine pn_condF rfl ?_
  refine pn_skip ?_
  refine pn_seq ?_
  refine pn_plain [] rfl ?_
  refine TE_q rfl rfl (RD.move rfl) rfl ?_
  refine TE_q rfl rfl (RD.build rfl (bd_sib0 s)) rfl ?_
  refine TE_box rfl rfl trivial rfl fun b12 hb12 => ?_
  refine TE_q rfl rfl (RD.assign rfl) rfl ?_
  refine TE_q rfl rfl (RD.assign rfl) rfl ?_
  refine TE_nil0 ?_
  refine pn_ret ?_
  exact pn_done rfl rfl ⟨b12, rfl, rfl⟩ (List.sublist_append_left [_] _) (by simp; exact hb12)

end Go.Proofs.YtaakjgmehbbgfaaGreatDoor
