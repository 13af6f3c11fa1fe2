import Derived.Test.YtaakjgmehbbgfaaGreatDoorOrd
import Derived.Test.YtaakjgmehbbgfaaGreatDoorEqr
import Derived.Test.YtaakjgmehbbgfaaGreatDoorRf5
import Derived.Test.YtaakjgmehbbgfaaGreatDoorMvC
import Derived.Test.YtaakjgmehbbgfaaGreatDoorRc2
import Derived.Test.YtaakjgmehbbgfaaGreatDoorMvB
import Derived.Test.YtaakjgmehbbgfaaGreatDoorDd
import Derived.Test.YtaakjgmehbbgfaaGreatDoorAlv
namespace Go.Proofs.YtaakjgmehbbgfaaGreatDoor
open Go Go.Mv
set_option maxRecDepth 8000
def sameLB : List Rec → List Rec → Bool
  | [], [] => true
  | x :: xs, y :: ys => sameRB x y && sameLB xs ys
  | _, _ => false
theorem sameLB_self : ∀ l : List Rec, sameLB l l = true
  | [] => rfl
  | x :: l => by simp [sameLB, sameRB_self, sameLB_self l]
theorem sameLB_len : ∀ {xs ys : List Rec}, xs.length ≠ ys.length → sameLB xs ys = false
  | [], [], h => absurd rfl h
  | x :: xs, y :: ys, h => by
    have := sameLB_len (xs := xs) (ys := ys) (by simpa using h)
    simp [sameLB, this]
  | [], y :: ys, _ => rfl
  | x :: xs, [], _ => rfl
theorem sameLB_F : ∀ {xs ys : List Rec} {i : Nat} {x y : Rec}, xs[i]? = some x → ys[i]? = some y → sameRB x y = false → sameLB xs ys = false
  | [], _, i, x, y, h, _, _ => by simp at h
  | _ :: _, [], i, x, y, _, h, _ => by simp at h
  | a :: xs, b :: ys, 0, x, y, h1, h2, h => by
    simp only [List.getElem?_cons_zero, Option.some.injEq] at h1 h2
    subst h1; subst h2; simp [sameLB, h]
  | a :: xs, b :: ys, i + 1, x, y, h1, h2, h => by
    rw [List.getElem?_cons_succ] at h1 h2
    simp [sameLB, sameLB_F h1 h2 h]
theorem sameLB_T : ∀ {xs ys : List Rec}, xs.length = ys.length → (∀ (i : Nat) (x y : Rec), xs[i]? = some x → ys[i]? = some y → sameRB x y = true) → sameLB xs ys = true
  | [], [], _, _ => rfl
  | [], _ :: _, h, _ => by simp at h
  | _ :: _, [], h, _ => by simp at h
  | a :: xs, b :: ys, h, hs => by
    have h1 := hs 0 a b rfl rfl
    have h2 := sameLB_T (xs := xs) (ys := ys) (by simpa using h) (fun i x y hx hy => hs (i + 1) x y (by simpa using hx) (by simpa using hy))
    simp [sameLB, h1, h2]
theorem eq_dotK {a b : Rec} : (decide (a.s = b.s) && decide (a.c = b.c)) = decide (dotK a = dotK b) := by
  rw [← Bool.decide_and]; exact decide_eq_decide.2 (by simp [dotK])
def dotC (r : Rec) : List Value := [.int .i64 r.s, .int .i64 r.c]
theorem dotC_agg (r : Rec) : Value.agg (dotC r).toArray = dotV r.s r.c := rfl
theorem dotC_in {r : Rec} {j : Nat} {u : Value} (h : (dotC r)[j]? = some u) : (recC r)[j]? = some u := by
  rcases j with _ | _ | j
  · exact h
  · exact h
  · simp [dotC] at h
theorem cells1 (x : Rec) : (recV x).cells = (cat recC [x] ++ []).toArray := by simp [cat, recC]

theorem c_r12Same (HX : Mem) (v1 v2 : Value) (xs ys : List Rec) (w : World) (h1 : Rdx 52 recC HX v1 xs) (h2 : Rdx 52 recC HX v2 ys) (hlen1 : xs.length ≤ 1000000) (hH : Hp HX w) : Calls Tryz.prog 12 #[v1, v2] w (Ret w [] fun v H1 => v = .bool (sameLB xs ys) ∧ H1 = []) := by
  refine fn_enter (args := [_, _]) Tryz.func12 rfl Tryz.ntmps12 rfl hH ?_
  refine pn_seq ?_
  refine pn_plain [] rfl ?_
  refine TE_q rfl rfl (RD.assign rfl) rfl ?_
  refine TE_nil0 ?_
  refine pn_seq ?_
  refine pn_seq ?_
  refine pn_plain [1, 3] rfl ?_
  refine TE_q rfl rfl (RD.move rfl) rfl ?_
  refine TE_q rfl rfl (RD.lenX Tryz.runUnderlying22 rfl h1) rfl ?_
  refine TE_q rfl rfl (RD.move rfl) rfl ?_
  refine TE_q rfl rfl (RD.lenX Tryz.runUnderlying22 rfl h2) rfl ?_
  refine TE_q rfl rfl (RD.neq rfl rfl) rfl ?_
  refine TE_nil0 ?_
  first | refine pn_condD rfl (fun hc0 => ?_) (fun hc0 => ?_) | refine pn_condN rfl (fun hc0 => ?_) (fun hc0 => ?_) | refine pn_cond rfl (fun hc0 => ?_) (fun hc0 => ?_)
  · refine pn_seq ?_
    refine pn_plain [] rfl ?_
    refine TE_q rfl rfl (RD.assign rfl) rfl ?_
    refine TE_nil0 ?_
    refine pn_ret ?_
    exact pn_done rfl rfl ⟨by rw [sameLB_len (by omega)]; rfl, rfl⟩ (List.nil_sublist _) (by simp)
  · refine pn_skip ?_
    refine pn_seq ?_
    refine pn_seq ?_
    refine pn_plain [] rfl ?_
    refine TE_q rfl rfl (RD.assign rfl) rfl ?_
    refine TE_nil0 ?_
    refine pn_block ?_
    refine pn_loop (σ := Nat) (fun i => [(5, .int .i64 (i : Int)), (0, v1), (1, v2)]) (fun _ => HX) (fun i => i ≤ xs.length ∧ ∀ (j : Nat) (x y : Rec), xs[j]? = some x → ys[j]? = some y → j < i → sameRB x y = true) (fun i => xs.length - i) 0 ⟨Nat.zero_le _, fun _ _ _ _ _ h => absurd h (by omega)⟩ ⟨rfl, rfl, rfl, trivial⟩ (List.Sublist.refl _) ?_
    rintro i ⟨hi, hsm⟩
    refine pn_seq ?_
    refine pn_seq ?_
    refine pn_plain [2] rfl ?_
    refine TE_q rfl rfl (RD.move rfl) rfl ?_
    refine TE_q rfl rfl (RD.move rfl) rfl ?_
    refine TE_q rfl rfl (RD.lenX Tryz.runUnderlying22 rfl h1) rfl ?_
    refine TE_q rfl rfl (RD.lss rfl rfl) rfl ?_
    refine TE_nil0 ?_
    first | refine pn_condD rfl (fun hc1 => ?_) (fun hc1 => ?_) | refine pn_condN rfl (fun hc1 => ?_) (fun hc1 => ?_) | refine pn_cond rfl (fun hc1 => ?_) (fun hc1 => ?_)
    · refine pn_skip ?_
      refine pn_seq ?_
      refine pn_block ?_
      refine pn_seq ?_
      have hq9 : ∃ x, xs[i]? = some x := ⟨_, List.getElem?_eq_getElem (by omega)⟩; obtain ⟨x, hx⟩ := hq9; have hq9 : ∃ y, ys[i]? = some y := ⟨_, List.getElem?_eq_getElem (by omega)⟩; obtain ⟨y, hy⟩ := hq9; have hq9 := h1.at hx; obtain ⟨b1, off1, cap1, hv1, hcap1, hcell1⟩ := hq9; have hq9 := h2.at hy; obtain ⟨b2, off2, cap2, hv2, hcap2, hcell2⟩ := hq9
      refine pn_drawT [3, 7] [] [] [] HX rfl rfl (by kernel_rfl) (by kernel_rfl) rfl rfl ?_
      refine TE_q rfl rfl (RD.move rfl) rfl ?_
      refine TE_q rfl rfl (RD.move rfl) rfl ?_
      refine TE_q rfl rfl (RD.indexX (i := i) Tryz.runUnderlying22 Tryz.sizeOf40 (congrArg some hv1) rfl rfl (by omega)) rfl ?_
      refine TE_q rfl rfl (RD.as (v := recV x) (RD.loadX (vs := recC x) Tryz.isAgg40 Tryz.sizeOf40 rfl rfl (fun w hw j u hu => hcell1 w (hw.sp (fun a => by simp -failIfUnchanged <;> omega)) j u hu)) (recC_agg _)) rfl ?_
      refine TE_q rfl rfl (RD.move rfl) rfl ?_
      refine TE_q rfl rfl (RD.move rfl) rfl ?_
      refine TE_q rfl rfl (RD.indexX (i := i) Tryz.runUnderlying22 Tryz.sizeOf40 (congrArg some hv2) rfl rfl (by omega)) rfl ?_
      refine TE_q rfl rfl (RD.as (v := recV y) (RD.loadX (vs := recC y) Tryz.isAgg40 Tryz.sizeOf40 rfl rfl (fun w hw j u hu => hcell2 w (hw.sp (fun a => by simp -failIfUnchanged <;> omega)) j u hu)) (recC_agg _)) rfl ?_
      refine TE_q rfl rfl (RD.neq_agg Tryz.eqGuardType40 (eq_rec x y) rfl rfl) rfl ?_
      refine TE_nil ?_
      first | refine pn_condD rfl (fun hc2 => ?_) (fun hc2 => ?_) | refine pn_condN rfl (fun hc2 => ?_) (fun hc2 => ?_) | refine pn_cond rfl (fun hc2 => ?_) (fun hc2 => ?_)
      · refine pn_seq ?_
        refine pn_plain [] rfl ?_
        refine TE_q rfl rfl (RD.assign rfl) rfl ?_
        refine TE_nil0 ?_
        refine pn_ret ?_
        exact pn_done rfl rfl ⟨by rw [sameLB_F hx hy (by simpa using hc2)]; rfl, rfl⟩ (List.nil_sublist _) (by simp)
      · refine pn_skip ?_
        refine pn_plain [] rfl ?_
        refine TE_q rfl rfl (RD.move rfl) rfl ?_
        refine TE_q rfl rfl (RD.addI rfl rfl (by omega) (by omega)) rfl ?_
        refine TE_q rfl rfl (RD.assign rfl) rfl ?_
        refine TE_nil0 ?_
        (exact pn_again (i + 1) ⟨by omega, fun j x' y' hx' hy' h => by rcases Nat.lt_succ_iff_lt_or_eq.1 h with h | rfl; exact hsm j x' y' hx' hy' h; rw [hx] at hx'; rw [hy] at hy'; cases hx'; cases hy'; simpa using hc2⟩ (by show xs.length - (i + 1) < xs.length - i; omega) ⟨rfl, rfl, rfl, trivial⟩ (List.Sublist.refl _))
    · refine pn_exit ?_
      refine pn_seq ?_
      refine pn_plain [] rfl ?_
      refine TE_q rfl rfl (RD.assign rfl) rfl ?_
      refine TE_nil0 ?_
      refine pn_ret ?_
      exact pn_done rfl rfl ⟨by rw [sameLB_T (by omega) (fun j x y hx hy => hsm j x y hx hy (by have := (List.getElem?_eq_some_iff.1 hx).1; omega))]; rfl, rfl⟩ (List.nil_sublist _) (by simp)

end Go.Proofs.YtaakjgmehbbgfaaGreatDoor
