import Derived.Test.YtaakjgmehbbgfaaGreatDoorSbs
namespace Go.Proofs.YtaakjgmehbbgfaaGreatDoor
open Go Go.Mv
set_option maxRecDepth 8000
/-- Are they more than statements go through? -/
def greatR (l : List Rec) : Bool := l.any (fun r => decide (300 < r.ref.size)) || decide (60 < l.length)
theorem greatR_F {l : List Rec} (h : greatR l = false) : l.length ≤ 60 ∧ ∀ r ∈ l, r.ref.size ≤ 300 := by
  simp only [greatR, Bool.or_eq_false_iff, List.any_eq_false, decide_eq_true_eq, decide_eq_false_iff_not] at h
  exact ⟨by omega, fun r hr => by have := h.1 r hr; omega⟩
theorem c_s19great (HX : Mem) (v : Value) (l : List Rec) (w : World) (hb : Rdx 52 recC HX v l) (hlen : l.length ≤ 9223372036854775807) (hH : Hp HX w) : Calls Tryz.prog 9 #[v] w (Ret w [] fun r H1 => r = .bool (greatR l) ∧ H1 = []) := by
  refine fn_enter (args := [_]) Tryz.func9 rfl Tryz.ntmps9 rfl hH ?_
  refine pn_seq ?_
  refine pn_plain [] rfl ?_
  refine TE_q rfl rfl (RD.assign rfl) rfl ?_
  refine TE_nil0 ?_
  refine pn_seq ?_
  refine pn_seq ?_
  refine pn_plain [1] rfl ?_
  refine TE_q rfl rfl (RD.move rfl) rfl ?_
  refine TE_q rfl rfl (RD.lenX Tryz.runUnderlying22 rfl hb) rfl ?_
  refine TE_q rfl rfl (RD.move rfl) rfl ?_
  refine TE_nil0 ?_
  refine pn_block ?_
  refine pn_loop (σ := Nat) (fun i => [(6, .int .i64 (i : Int)), (5, .int .i64 l.length), (0, v)]) (fun _ => HX) (fun i => i ≤ l.length ∧ ∀ (j : Nat) (x : Rec), j < i → l[j]? = some x → x.ref.size ≤ 300) (fun i => l.length - i) 0 ⟨Nat.zero_le _, fun _ _ h => absurd h (by omega)⟩ ⟨rfl, rfl, rfl, trivial⟩ (List.Sublist.refl _) ?_
  rintro i ⟨hi, hall⟩
  refine pn_seq ?_
  refine pn_plain [] rfl ?_
  refine TE_q rfl rfl (RD.lss rfl rfl) rfl ?_
  refine TE_nil0 ?_
  refine pn_seq ?_
  first | refine pn_condD rfl (fun hc0 => ?_) (fun hc0 => ?_) | refine pn_condN rfl (fun hc0 => ?_) (fun hc0 => ?_) | refine pn_cond rfl (fun hc0 => ?_) (fun hc0 => ?_)
  · refine pn_skip ?_
    refine pn_seq ?_
    refine pn_block ?_
    refine pn_seq ?_
    refine pn_plain [] rfl ?_
    refine TE_q rfl rfl (RD.move rfl) rfl ?_
    refine TE_q rfl rfl (RD.assign rfl) rfl ?_
    refine TE_nil0 ?_
    refine pn_seq ?_
    have hlt : i < l.length := (by omega); have hq9 : ∃ x, l[i]? = some x := ⟨_, List.getElem?_eq_getElem hlt⟩; obtain ⟨x, hx⟩ := hq9; have hq9 := hb.at hx; obtain ⟨b, off, cap, hv, hcap, hcell⟩ := hq9
    refine pn_plain [5] rfl ?_
    refine TE_q rfl rfl (RD.move rfl) rfl ?_
    refine TE_q rfl rfl (RD.move rfl) rfl ?_
    refine TE_q rfl rfl (RD.indexX (i := i) Tryz.runUnderlying22 Tryz.sizeOf40 (congrArg some hv) rfl rfl hlt) rfl ?_
    refine TE_q rfl rfl (RD.fieldAddr (o := off + i * 52 + 18) Tryz.runUnderlying40 rfl rfl Tryz.sizeOf9 rfl) rfl ?_
    refine TE_l rfl rfl trivial rfl (RD.loadC Tryz.isAgg9 rfl (fun w hw => hcell w (hw.sp (fun a => by simp -failIfUnchanged <;> omega)) 18 _ rfl)) rfl ?_
    refine TE_q rfl rfl (RD.len_string Tryz.runUnderlying9 rfl) rfl ?_
    refine TE_q rfl rfl (RD.gtr rfl rfl) rfl ?_
    refine TE_nil0 ?_
    first | refine pn_condD rfl (fun hc1 => ?_) (fun hc1 => ?_) | refine pn_condN rfl (fun hc1 => ?_) (fun hc1 => ?_) | refine pn_cond rfl (fun hc1 => ?_) (fun hc1 => ?_)
    · refine pn_seq ?_
      refine pn_plain [] rfl ?_
      refine TE_q rfl rfl (RD.assign rfl) rfl ?_
      refine TE_nil0 ?_
      refine pn_ret ?_
      exact pn_done rfl rfl ⟨by rw [greatR, List.any_eq_true.2 ⟨x, List.mem_of_getElem? hx, decide_eq_true (by omega)⟩]; rfl, rfl⟩ (List.nil_sublist _) (by simp)
    · refine pn_skip ?_
      refine pn_plain [] rfl ?_
      refine TE_q rfl rfl (RD.addI rfl rfl (by omega) (by omega)) rfl ?_
      refine TE_q rfl rfl (RD.move rfl) rfl ?_
      refine TE_nil0 ?_
      (exact pn_again (i + 1) ⟨by omega, fun j y h hy => by rcases Nat.lt_succ_iff_lt_or_eq.1 h with h | rfl; exact hall j y h hy; rw [hx] at hy; cases hy; omega⟩ (by show l.length - (i + 1) < l.length - i; omega) ⟨rfl, rfl, rfl, trivial⟩ (List.Sublist.refl _))
  · refine pn_exit ?_
    refine pn_seq ?_
    refine pn_plain [1] rfl ?_
    refine TE_q rfl rfl (RD.move rfl) rfl ?_
    refine TE_q rfl rfl (RD.lenX Tryz.runUnderlying22 rfl hb) rfl ?_
    refine TE_q rfl rfl (RD.gtr rfl rfl) rfl ?_
    refine TE_q rfl rfl (RD.assign rfl) rfl ?_
    refine TE_nil0 ?_
    refine pn_ret ?_
    exact pn_done rfl rfl ⟨by rw [greatR, List.any_eq_false.2 (fun x hx => by obtain ⟨j, hj⟩ := List.mem_iff_getElem?.1 hx; have := hall j x (by have := (List.getElem?_eq_some_iff.1 hj).1; omega) hj; simpa using this), Bool.false_or]; exact congrArg Value.bool (decide_eq_decide.2 (by omega)), rfl⟩ (List.nil_sublist _) (by simp)

theorem c_outdone (x y : Rec) (w : World) (hx : RecOk x) : Calls Tryz.prog 41 #[recV x, recV y] w (Ret w [] fun v H1 => v = .bool (outdoesB x y) ∧ H1 = []) := by
  refine fn_enter (args := [_, _]) Tryz.func41 rfl Tryz.ntmps41 rfl (Hp.nil w) ?_
  refine pn_seq ?_
  refine pn_plain [] rfl ?_
  refine TE_box rfl rfl trivial rfl fun b2 hb2 => ?_
  refine TE_box rfl rfl trivial rfl fun b3 hb3 => ?_
  refine TE_q rfl rfl (RD.assign rfl) rfl ?_
  refine TE_nil0 ?_
  refine pn_seq ?_
  refine pn_plain [] rfl ?_
  refine TE_l rfl rfl trivial rfl (RD.loadA (i := 1) Tryz.isAgg86 Tryz.sizeOf86 rfl rfl (Nat.le_of_ble_eq_true rfl) (rec_all _)) rfl ?_
  refine TE_l rfl rfl trivial rfl (RD.loadA (i := 0) Tryz.isAgg40 Tryz.sizeOf40 rfl rfl (Nat.le_of_ble_eq_true rfl) (rec_all _)) rfl ?_
  refine TE_call rfl rfl trivial Tryz.call20 rfl rfl rfl (fun w hs' => c_outdoes x y w hx) ?_
  rintro v7 H2 ⟨rfl, rfl⟩ -
  refine TE_q rfl rfl (RD.assign rfl) rfl ?_
  refine TE_nil0 ?_
  refine pn_ret ?_
  exact pn_done rfl rfl ⟨rfl, rfl⟩ (List.nil_sublist _) (by simp)

end Go.Proofs.YtaakjgmehbbgfaaGreatDoor
