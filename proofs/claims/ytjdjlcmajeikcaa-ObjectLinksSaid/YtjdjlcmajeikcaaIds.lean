import Derived.Test.YtjdjlcmajeikcaaOrd
import Derived.Test.YtjdjlcmajeikcaaEqr
import Derived.Test.YtjdjlcmajeikcaaRf4
import Derived.Test.YtjdjlcmajeikcaaMvC
import Derived.Test.YtjdjlcmajeikcaaR1
import Derived.Test.YtjdjlcmajeikcaaRc2
import Derived.Test.YtjdjlcmajeikcaaMvB
import Derived.Test.YtjdjlcmajeikcaaMvH
namespace Go.Proofs.Ytjdjlcmajeikcaa
open Go Go.Mv
set_option maxRecDepth 8000
theorem c_bytesCmp (f g : Nat → Int) (b1 b2 : Nat) (w : World) (hf : IdOk f) (hg : IdOk g) (hH : Hp [(b1, .cells (idV f).cells 25 (0, 0)), (b2, .cells (idV g).cells 25 (0, 0))] w) : Calls Try.prog 101 #[.slice (some ⟨b1, 0, none⟩) 32 32, .slice (some ⟨b2, 0, none⟩) 32 32] w (Ret w [] fun v H1 => v = .int .i64 (idCmp f g) ∧ H1 = []) := by
  refine fn_enter (args := [_, _]) Try.func101 rfl Try.ntmps101 rfl hH ?_
  refine pn_seq ?_
  refine pn_plain [] rfl ?_
  refine TE_q rfl rfl (RD.assign rfl) rfl ?_
  refine TE_nil0 ?_
  refine pn_seq ?_
  refine pn_plain [] rfl ?_
  refine TE_q rfl rfl (RD.move rfl) rfl ?_
  refine TE_q rfl rfl (RD.move rfl) rfl ?_
  refine TE_l rfl rfl trivial rfl (RD.call_extern rfl rfl (fun w hw => run_cmpIds (o1 := 0) (o2 := 0) Try.func112 (by kernel_rfl) (by kernel_rfl) (by kernel_rfl) (by kernel_rfl) hf hg (id_slice (i := 0) hw rfl) (id_slice (i := 1) hw rfl))) rfl ?_
  refine TE_q rfl rfl (RD.assign rfl) rfl ?_
  refine TE_nil0 ?_
  refine pn_ret ?_
  exact pn_done rfl rfl ⟨rfl, rfl⟩ (List.nil_sublist _) (by simp)

theorem c_hashCmp (f g : Nat → Int) (w : World) (hf : IdOk f) (hg : IdOk g) : Calls Try.prog 97 #[idV f, idV g] w (Ret w [] fun v H1 => v = .int .i64 (idCmp f g) ∧ H1 = []) := by
  refine fn_enter (args := [_, _]) Try.func97 rfl Try.ntmps97 rfl (Hp.nil w) ?_
  refine pn_seq ?_
  refine pn_plain [] rfl ?_
  refine TE_box rfl rfl trivial rfl fun b2 hb2 => ?_
  refine TE_box rfl rfl trivial rfl fun b3 hb3 => ?_
  refine TE_q rfl rfl (RD.assign rfl) rfl ?_
  refine TE_nil0 ?_
  refine pn_seq ?_
  refine pn_seq ?_
  refine pn_plain [] rfl ?_
  refine TE_l rfl rfl trivial rfl (RD.loadA (i := 1) Try.isAgg25 Try.sizeOf25 rfl rfl (Nat.le_of_ble_eq_true rfl) (id_all _)) rfl ?_
  refine TE_l rfl rfl trivial rfl (RD.loadA (i := 0) Try.isAgg25 Try.sizeOf25 rfl rfl (Nat.le_of_ble_eq_true rfl) (id_all _)) rfl ?_
  refine TE_q rfl rfl (RD.eql_agg Try.eqGuardType25 (eq_id f g) rfl rfl) rfl ?_
  refine TE_nil0 ?_
  first | refine pn_condD rfl (fun hc0 => ?_) (fun hc0 => ?_) | refine pn_condN rfl (fun hc0 => ?_) (fun hc0 => ?_) | refine pn_cond rfl (fun hc0 => ?_) (fun hc0 => ?_)
  · refine pn_seq ?_
    refine pn_plain [] rfl ?_
    refine TE_q rfl rfl (RD.assign rfl) rfl ?_
    refine TE_nil0 ?_
    refine pn_ret ?_
    exact pn_done rfl rfl ⟨by rw [idCmp_zero.2 (sameN_iff.1 (by simpa using hc0))]; rfl, rfl⟩ (List.nil_sublist _) (by simp)
  · refine pn_skip ?_
    refine pn_seq ?_
    refine pn_draw [] [] [0, 1] rfl (by kernel_rfl) (by kernel_rfl) rfl rfl ?_
    refine TE_q rfl rfl (RD.sliceA Try.runUnderlying25 Try.sizeOf5 rfl rfl (Nat.le_refl _)) rfl ?_
    refine TE_q rfl rfl (RD.sliceA Try.runUnderlying25 Try.sizeOf5 rfl rfl (Nat.le_refl _)) rfl ?_
    refine TE_call rfl rfl trivial Try.call101 rfl rfl rfl (fun w hs' => c_bytesCmp f g b2 b3 w hf hg (hs'.hp.sp (fun a => by simp -failIfUnchanged <;> omega))) ?_
    rintro v10 H2 ⟨rfl, rfl⟩ -
    refine TE_q rfl rfl (RD.assign rfl) rfl ?_
    refine TE_nil ?_
    refine pn_ret ?_
    exact pn_done rfl rfl ⟨rfl, rfl⟩ (List.nil_sublist _) (by simp)

def sameIL : List (Nat → Int) → List (Nat → Int) → Bool
  | [], [] => true
  | x :: xs, y :: ys => sameN 32 x y && sameIL xs ys
  | _, _ => false
theorem sameIL_self : ∀ l : List (Nat → Int), sameIL l l = true
  | [] => rfl
  | x :: l => by simp [sameIL, sameN_iff.2 fun _ _ => rfl, sameIL_self l]
theorem sameIL_len : ∀ {xs ys : List (Nat → Int)}, xs.length ≠ ys.length → sameIL xs ys = false
  | [], [], h => absurd rfl h
  | x :: xs, y :: ys, h => by
    have := sameIL_len (xs := xs) (ys := ys) (by simpa using h)
    simp [sameIL, this]
  | [], y :: ys, _ => rfl
  | x :: xs, [], _ => rfl
theorem sameIL_F : ∀ {xs ys : List (Nat → Int)} {i : Nat} {x y : Nat → Int}, xs[i]? = some x → ys[i]? = some y → sameN 32 x y = false → sameIL xs ys = false
  | [], _, i, x, y, h, _, _ => by simp at h
  | _ :: _, [], i, x, y, _, h, _ => by simp at h
  | a :: xs, b :: ys, 0, x, y, h1, h2, h => by
    simp only [List.getElem?_cons_zero, Option.some.injEq] at h1 h2
    subst h1; subst h2; simp [sameIL, h]
  | a :: xs, b :: ys, i + 1, x, y, h1, h2, h => by
    rw [List.getElem?_cons_succ] at h1 h2
    simp [sameIL, sameIL_F h1 h2 h]
theorem sameIL_T : ∀ {xs ys : List (Nat → Int)}, xs.length = ys.length → (∀ (i : Nat) (x y : Nat → Int), xs[i]? = some x → ys[i]? = some y → sameN 32 x y = true) → sameIL xs ys = true
  | [], [], _, _ => rfl
  | [], _ :: _, h, _ => by simp at h
  | _ :: _, [], h, _ => by simp at h
  | a :: xs, b :: ys, h, hs => by
    have h1 := hs 0 a b rfl rfl
    have h2 := sameIL_T (xs := xs) (ys := ys) (by simpa using h) (fun i x y hx hy => hs (i + 1) x y (by simpa using hx) (by simpa using hy))
    simp [sameIL, h1, h2]
theorem elId : ElI Try.prog 25 32 32 (idV fun _ => 0) := by unfold ElI; kernel_rfl
theorem c_r3Same (HX : Mem) (v1 v2 : Value) (xs ys : List (Nat → Int)) (w : World) (h1 : Rdx 32 idC HX v1 xs) (h2 : Rdx 32 idC HX v2 ys) (hlen1 : xs.length ≤ 1000000) (hH : Hp HX w) : Calls Try.prog 21 #[v1, v2] w (Ret w [] fun v H1 => v = .bool (sameIL xs ys) ∧ H1 = []) := by
  refine fn_enter (args := [_, _]) Try.func21 rfl Try.ntmps21 rfl hH ?_
  refine pn_seq ?_
  refine pn_plain [] rfl ?_
  refine TE_q rfl rfl (RD.assign rfl) rfl ?_
  refine TE_nil0 ?_
  refine pn_seq ?_
  refine pn_seq ?_
  refine pn_plain [1, 3] rfl ?_
  refine TE_q rfl rfl (RD.move rfl) rfl ?_
  refine TE_q rfl rfl (RD.lenX Try.runUnderlying26 rfl h1) rfl ?_
  refine TE_q rfl rfl (RD.move rfl) rfl ?_
  refine TE_q rfl rfl (RD.lenX Try.runUnderlying26 rfl h2) rfl ?_
  refine TE_q rfl rfl (RD.neq rfl rfl) rfl ?_
  refine TE_nil0 ?_
  first | refine pn_condD rfl (fun hc0 => ?_) (fun hc0 => ?_) | refine pn_condN rfl (fun hc0 => ?_) (fun hc0 => ?_) | refine pn_cond rfl (fun hc0 => ?_) (fun hc0 => ?_)
  · refine pn_seq ?_
    refine pn_plain [] rfl ?_
    refine TE_q rfl rfl (RD.assign rfl) rfl ?_
    refine TE_nil0 ?_
    refine pn_ret ?_
    exact pn_done rfl rfl ⟨by rw [sameIL_len (by omega)]; rfl, rfl⟩ (List.nil_sublist _) (by simp)
  · refine pn_skip ?_
    refine pn_seq ?_
    refine pn_seq ?_
    refine pn_plain [] rfl ?_
    refine TE_q rfl rfl (RD.assign rfl) rfl ?_
    refine TE_nil0 ?_
    refine pn_block ?_
    refine pn_loop (σ := Nat) (fun i => [(5, .int .i64 (i : Int)), (0, v1), (1, v2)]) (fun _ => HX) (fun i => i ≤ xs.length ∧ ∀ (j : Nat) (x y : Nat → Int), xs[j]? = some x → ys[j]? = some y → j < i → sameN 32 x y = true) (fun i => xs.length - i) 0 ⟨Nat.zero_le _, fun _ _ _ _ _ h => absurd h (by omega)⟩ ⟨rfl, rfl, rfl, trivial⟩ (List.Sublist.refl _) ?_
    rintro i ⟨hi, hsm⟩
    refine pn_seq ?_
    refine pn_seq ?_
    refine pn_plain [2] rfl ?_
    refine TE_q rfl rfl (RD.move rfl) rfl ?_
    refine TE_q rfl rfl (RD.move rfl) rfl ?_
    refine TE_q rfl rfl (RD.lenX Try.runUnderlying26 rfl h1) rfl ?_
    refine TE_q rfl rfl (RD.lss rfl rfl) rfl ?_
    refine TE_nil0 ?_
    first | refine pn_condD rfl (fun hc1 => ?_) (fun hc1 => ?_) | refine pn_condN rfl (fun hc1 => ?_) (fun hc1 => ?_) | refine pn_cond rfl (fun hc1 => ?_) (fun hc1 => ?_)
    · refine pn_skip ?_
      refine pn_seq ?_
      refine pn_block ?_
      refine pn_seq ?_
      have hq9 : ∃ x, xs[i]? = some x := ⟨_, List.getElem?_eq_getElem (by omega)⟩; obtain ⟨x, hx⟩ := hq9; have hq9 : ∃ y, ys[i]? = some y := ⟨_, List.getElem?_eq_getElem (by omega)⟩; obtain ⟨y, hy⟩ := hq9; have hq9 := h1.at hx; obtain ⟨b1, off1, cap1, hv1, hcap1, hcell1⟩ := hq9; have hq9 := h2.at hy; obtain ⟨b2, off2, cap2, hv2, hcap2, hcell2⟩ := hq9
      refine pn_drawT [3, 7] [] [] [] HX rfl rfl (by kernel_rfl) (by kernel_rfl) rfl rfl ?_
      refine TE_q rfl rfl (RD.move rfl) rfl ?_
      refine TE_q rfl rfl (RD.move rfl) rfl ?_
      refine TE_q rfl rfl (RD.indexX (i := i) Try.runUnderlying26 Try.sizeOf25 (congrArg some hv1) rfl rfl (by omega)) rfl ?_
      refine TE_q rfl rfl (RD.as (v := idV x) (RD.loadX (vs := idC x) Try.isAgg25 Try.sizeOf25 rfl rfl (fun w hw j u hu => hcell1 w (hw.sp (fun a => by simp -failIfUnchanged <;> omega)) j u hu)) (idC_agg _)) rfl ?_
      refine TE_q rfl rfl (RD.move rfl) rfl ?_
      refine TE_q rfl rfl (RD.move rfl) rfl ?_
      refine TE_q rfl rfl (RD.indexX (i := i) Try.runUnderlying26 Try.sizeOf25 (congrArg some hv2) rfl rfl (by omega)) rfl ?_
      refine TE_q rfl rfl (RD.as (v := idV y) (RD.loadX (vs := idC y) Try.isAgg25 Try.sizeOf25 rfl rfl (fun w hw j u hu => hcell2 w (hw.sp (fun a => by simp -failIfUnchanged <;> omega)) j u hu)) (idC_agg _)) rfl ?_
      refine TE_q rfl rfl (RD.neq_agg Try.eqGuardType25 (eq_id x y) rfl rfl) rfl ?_
      refine TE_nil ?_
      first | refine pn_condD rfl (fun hc2 => ?_) (fun hc2 => ?_) | refine pn_condN rfl (fun hc2 => ?_) (fun hc2 => ?_) | refine pn_cond rfl (fun hc2 => ?_) (fun hc2 => ?_)
      · refine pn_seq ?_
        refine pn_plain [] rfl ?_
        refine TE_q rfl rfl (RD.assign rfl) rfl ?_
        refine TE_nil0 ?_
        refine pn_ret ?_
        exact pn_done rfl rfl ⟨by rw [sameIL_F hx hy (by simpa using hc2)]; rfl, rfl⟩ (List.nil_sublist _) (by simp)
      · refine pn_skip ?_
        refine pn_plain [] rfl ?_
        refine TE_q rfl rfl (RD.move rfl) rfl ?_
        refine TE_q rfl rfl (RD.addI rfl rfl (by omega) (by omega)) rfl ?_
        refine TE_q rfl rfl (RD.assign rfl) rfl ?_
        refine TE_nil0 ?_
        (exact pn_again (i + 1) ⟨by omega, fun j x' y' hx' hy' h => by rcases Nat.lt_succ_iff_lt_or_eq.1 h with h | rfl; exact hsm j x' y' hx' hy' h; rw [hx] at hx'; rw [hy] at hy'; cases hx'; cases hy'; simpa using hc2⟩ (by show xs.length - (i + 1) < xs.length - i; omega) ⟨rfl, rfl, rfl, trivial⟩ (List.Sublist.refl _))
    · refine pn_exit ?_
      refine pn_seq ?_
      refine pn_plain [] rfl ?_
      refine TE_q rfl rfl (RD.assign rfl) rfl ?_
      refine TE_nil0 ?_
      refine pn_ret ?_
      exact pn_done rfl rfl ⟨by rw [sameIL_T (by omega) (fun j x y hx hy => hsm j x y hx hy (by have := (List.getElem?_eq_some_iff.1 hx).1; omega))]; rfl, rfl⟩ (List.nil_sublist _) (by simp)

end Go.Proofs.Ytjdjlcmajeikcaa
