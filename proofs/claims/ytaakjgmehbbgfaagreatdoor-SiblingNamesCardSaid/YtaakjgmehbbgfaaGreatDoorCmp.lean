import Derived.Test.YtaakjgmehbbgfaaGreatDoorRc2
import Derived.Test.YtaakjgmehbbgfaaGreatDoorMvF
namespace Go.Proofs.YtaakjgmehbbgfaaGreatDoor
open Go Go.Mv
set_option maxRecDepth 8000
def encI (x : Int) : List Value := [.int .i64 x]
theorem encI_len (x : Int) : (encI x).length = 1 := rfl
/-- The first one that is not 0. -/
def orI : List Int → Int
  | [] => 0
  | x :: r => if x = 0 then orI r else x
theorem orI_skip : ∀ (l : List Int) (i : Nat) (x : Int), (∀ y ∈ l.take i, y = 0) → l[i]? = some x → x ≠ 0 → orI l = x
  | [], i, x, _, h, _ => by simp at h
  | y :: r, 0, x, _, h, hx => by
    simp only [List.getElem?_cons_zero, Option.some.injEq] at h
    subst h; simp [orI, hx]
  | y :: r, i + 1, x, h0, h, hx => by
    simp only [List.take_succ_cons, List.mem_cons, forall_eq_or_imp] at h0
    rw [List.getElem?_cons_succ] at h
    rw [orI, if_pos h0.1]; exact orI_skip r i x h0.2 h hx
theorem orI_none : ∀ l : List Int, (∀ y ∈ l, y = 0) → orI l = 0
  | [], _ => rfl
  | y :: r, h => by
    simp only [List.mem_cons, forall_eq_or_imp] at h
    rw [orI, if_pos h.1]; exact orI_none r h.2
theorem take_zero {l : List Int} {i : Nat} (hi : i < l.length) (h : ∀ y ∈ l.take i, y = 0) (hx : l[i] = 0) : ∀ y ∈ l.take (i + 1), y = 0 := fun y hy => by
  rw [List.take_succ_eq_append_getElem hi] at hy
  rcases List.mem_append.1 hy with hy | hy
  · exact h y hy
  · simp only [List.mem_cons, List.not_mem_nil, or_false] at hy; rw [hy]; exact hx

theorem c_or (HX : Mem) (v : Value) (l : List Int) (w : World) (hb : Rdx 1 encI HX v l) (hlen : l.length ≤ 1000000) (hH : Hp HX w) : Calls Tryz.prog 76 #[v] w (Ret w [] fun x H1 => x = .int .i64 (orI l) ∧ H1 = []) := by
  refine fn_enter (args := [_]) Tryz.func76 rfl Tryz.ntmps76 rfl hH ?_
  refine pn_seq ?_
  refine pn_plain [] rfl ?_
  refine TE_q rfl rfl (RD.assign rfl) rfl ?_
  refine TE_nil0 ?_
  refine pn_seq ?_
  refine pn_plain [] rfl ?_
  refine TE_q rfl rfl (RD.assign rfl) rfl ?_
  refine TE_nil0 ?_
  refine pn_seq ?_
  refine pn_seq ?_
  refine pn_plain [1] rfl ?_
  refine TE_q rfl rfl (RD.move rfl) rfl ?_
  refine TE_q rfl rfl (RD.lenX Tryz.runUnderlying58 rfl hb) rfl ?_
  refine TE_q rfl rfl (RD.move rfl) rfl ?_
  refine TE_nil0 ?_
  refine pn_block ?_
  refine pn_loop (σ := Nat) (fun i => [(8, .int .i64 (i : Int)), (7, .int .i64 l.length), (6, v), (3, .int .i64 0)]) (fun _ => HX) (fun i => i ≤ l.length ∧ ∀ y ∈ l.take i, y = 0) (fun i => l.length - i) 0 ⟨Nat.zero_le _, by simp⟩ ⟨rfl, rfl, rfl, rfl, trivial⟩ (List.Sublist.refl _) ?_
  rintro i ⟨hi, hz⟩
  refine pn_seq ?_
  refine pn_plain [] rfl ?_
  refine TE_q rfl rfl (RD.lss rfl rfl) rfl ?_
  skip
  refine TE_nil0 ?_
  refine pn_seq ?_
  first | refine pn_condD rfl (fun hc0 => ?_) (fun hc0 => ?_) | refine pn_condN rfl (fun hc0 => ?_) (fun hc0 => ?_) | refine pn_cond rfl (fun hc0 => ?_) (fun hc0 => ?_)
  · refine pn_skip ?_
    refine pn_seq ?_
    refine pn_block ?_
    refine pn_seq ?_
    have hlt : i < l.length := (by omega); obtain ⟨b, off, cap, rfl, hcap, hcell⟩ := hb.at (List.getElem?_eq_getElem hlt)
    refine pn_plain [] rfl ?_
    refine TE_q rfl rfl (RD.indexX (i := i) Tryz.runUnderlying58 Tryz.sizeOf3 rfl rfl rfl hlt) rfl ?_
    refine TE_l rfl rfl trivial rfl (RD.loadC Tryz.isAgg3 rfl (fun w hw => hcell w (by rwa [List.append_nil] at hw) 0 _ rfl)) rfl ?_
    refine TE_q rfl rfl (RD.assign rfl) rfl ?_
    refine TE_nil0 ?_
    refine pn_seq ?_
    refine pn_plain [] rfl ?_
    refine TE_q rfl rfl (RD.move rfl) rfl ?_
    refine TE_q rfl rfl (RD.move rfl) rfl ?_
    refine TE_q rfl rfl (RD.neq rfl rfl) rfl ?_
    refine TE_nil0 ?_
    first | refine pn_condD rfl (fun hc1 => ?_) (fun hc1 => ?_) | refine pn_condN rfl (fun hc1 => ?_) (fun hc1 => ?_) | refine pn_cond rfl (fun hc1 => ?_) (fun hc1 => ?_)
    · refine pn_seq ?_
      refine pn_plain [] rfl ?_
      refine TE_q rfl rfl (RD.move rfl) rfl ?_
      refine TE_q rfl rfl (RD.assign rfl) rfl ?_
      refine TE_nil0 ?_
      refine pn_ret ?_
      exact pn_done rfl rfl ⟨by rw [orI_skip l i _ hz (List.getElem?_eq_getElem hlt) (by assumption)]; rfl, rfl⟩ (List.nil_sublist _) (by simp)
    · refine pn_skip ?_
      refine pn_plain [] rfl ?_
      refine TE_q rfl rfl (RD.addI rfl rfl (by omega) (by omega)) rfl ?_
      refine TE_q rfl rfl (RD.move rfl) rfl ?_
      refine TE_nil0 ?_
      (exact pn_again (i + 1) ⟨by omega, take_zero hlt hz (by assumption)⟩ (by show l.length - (i + 1) < l.length - i; omega) ⟨rfl, rfl, rfl, rfl, trivial⟩ (List.Sublist.refl _))
  · refine pn_exit ?_
    refine pn_seq ?_
    refine pn_plain [] rfl ?_
    refine TE_q rfl rfl (RD.move rfl) rfl ?_
    refine TE_q rfl rfl (RD.assign rfl) rfl ?_
    refine TE_nil0 ?_
    refine pn_ret ?_
    exact pn_done rfl rfl ⟨by rw [orI_none l (by rwa [List.take_of_length_le (by omega)] at hz)]; rfl, rfl⟩ (List.nil_sublist _) (by simp)

def dotCmp (s c s' c' : Int) : Int := orI [Lib.compareInt s s', Lib.compareInt c c']
theorem c_cmpI (x y : Int) (w : World) : Calls Tryz.prog 77 #[.int .i64 x, .int .i64 y] w (Ret w [] fun v H1 => v = .int .i64 (Lib.compareInt x y) ∧ H1 = []) := Ret.same (Tryz.cmp_Compare_int x y w)

theorem c_dotCompare (s c s' c' : Int) (w : World) : Calls Tryz.prog 39 #[dotV s c, dotV s' c'] w (Ret w [] fun v H1 => v = .int .i64 (dotCmp s c s' c') ∧ H1 = []) := by
  refine fn_enter (args := [_, _]) Tryz.func39 rfl Tryz.ntmps39 rfl (Hp.nil w) ?_
  refine pn_seq ?_
  refine pn_plain [] rfl ?_
  refine TE_box rfl rfl trivial rfl fun b2 hb2 => ?_
  refine TE_box rfl rfl trivial rfl fun b3 hb3 => ?_
  refine TE_q rfl rfl (RD.assign rfl) rfl ?_
  refine TE_nil0 ?_
  refine pn_seq ?_
  refine pn_draw [1, 3, 6, 8] [] [0, 1] rfl (by kernel_rfl) (by kernel_rfl) rfl rfl ?_
  refine TE_q rfl rfl (RD.fieldAddr (o := 0) Tryz.runUnderlying33 rfl rfl Tryz.sizeOf3 rfl) rfl ?_
  refine TE_q rfl rfl (RD.load (i := 1) Tryz.isAgg3 rfl rfl rfl) rfl ?_
  refine TE_q rfl rfl (RD.fieldAddr (o := 0) Tryz.runUnderlying33 rfl rfl Tryz.sizeOf3 rfl) rfl ?_
  refine TE_q rfl rfl (RD.load (i := 0) Tryz.isAgg3 rfl rfl rfl) rfl ?_
  refine TE_call rfl rfl trivial Tryz.call77 rfl rfl rfl (fun w hs' => c_cmpI s s' w) ?_
  rintro v9 H4 ⟨rfl, rfl⟩ -
  refine TE_q rfl rfl (RD.fieldAddr (o := 1) Tryz.runUnderlying33 rfl rfl Tryz.sizeOf3 rfl) rfl ?_
  refine TE_q rfl rfl (RD.load (i := 1) Tryz.isAgg3 rfl rfl rfl) rfl ?_
  refine TE_q rfl rfl (RD.fieldAddr (o := 1) Tryz.runUnderlying33 rfl rfl Tryz.sizeOf3 rfl) rfl ?_
  refine TE_q rfl rfl (RD.load (i := 0) Tryz.isAgg3 rfl rfl rfl) rfl ?_
  refine TE_call rfl rfl trivial Tryz.call77 rfl rfl rfl (fun w hs' => c_cmpI c c' w) ?_
  rintro v14 H9 ⟨rfl, rfl⟩ -
  refine TE_buildSlice (cells := #[.int .i64 (Lib.compareInt s s'), .int .i64 (Lib.compareInt c c')]) rfl Tryz.runUnderlying58 Tryz.sizeOf3 Tryz.zeroValue3 rfl rfl rfl (by kernel_rfl) trivial rfl fun b15 hb15 => ?_
  refine TE_call rfl rfl trivial Tryz.call76 rfl rfl rfl (fun w hs' => c_or [_] _ [Lib.compareInt s s', Lib.compareInt c c'] w (Rdx.blk (i := 0) (tl := []) encI_len rfl rfl (Nat.le_of_ble_eq_true rfl)) (Nat.le_of_ble_eq_true rfl) hs'.hp.left) ?_
  rintro v16 H11 ⟨rfl, rfl⟩ -
  refine TE_q rfl rfl (RD.assign rfl) rfl ?_
  refine TE_nil ?_
  refine pn_ret ?_
  exact pn_done rfl rfl ⟨rfl, rfl⟩ (List.nil_sublist _) (by simp)

end Go.Proofs.YtaakjgmehbbgfaaGreatDoor
