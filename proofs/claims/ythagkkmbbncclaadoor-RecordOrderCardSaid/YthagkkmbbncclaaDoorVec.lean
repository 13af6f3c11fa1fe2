import Derived.Test.YthagkkmbbncclaaDoorEnc
import Derived.Test.YthagkkmbbncclaaDoorMvB
namespace Go.Proofs.YthagkkmbbncclaaDoor
open Go Go.Mv
set_option maxRecDepth 4000
/-- How many counters are told: behind the last one that is not zero. -/
def vManyTo (v : Nat → Int) : Nat → Nat
  | 0 => 0
  | k + 1 => if 0 < v k then k + 1 else vManyTo v k
def vMany (v : Nat → Int) : Nat := vManyTo v 16
def vecU (v : Nat → Int) : Nat → List UInt8
  | 0 => []
  | k + 1 => vecU v k ++ lebL (v k).toNat
def vecL (v : Nat → Int) : List UInt8 := lebL (vMany v) ++ vecU v (vMany v)
theorem vManyTo_le (v : Nat → Int) : ∀ k, vManyTo v k ≤ k
  | 0 => Nat.le_refl _
  | k + 1 => by
    have := vManyTo_le v k
    simp only [vManyTo]; split <;> omega
theorem vManyTo_T {v : Nat → Int} {k : Nat} (h : 0 < v k) : vManyTo v (k + 1) = k + 1 := by simp [vManyTo, h]
theorem vManyTo_F {v : Nat → Int} {k : Nat} (h : ¬ 0 < v k) : vManyTo v (k + 1) = vManyTo v k := by simp [vManyTo, h]
theorem vecU_len {v : Nat → Int} (hv : VecOk v) : ∀ k, (vecU v k).length ≤ 10 * k
  | 0 => by simp [vecU]
  | k + 1 => by
    have h1 := vecU_len hv k
    have h2 := lebL_len64 (n := (v k).toNat) (by have := hv k; omega)
    simp only [vecU, List.length_append]; omega
theorem vecL_len {v : Nat → Int} (hv : VecOk v) : (vecL v).length ≤ 170 := by
  have h0 : vMany v ≤ 16 := vManyTo_le v 16
  have h1 := vecU_len hv (vMany v)
  have h2 := lebL_len64 (n := vMany v) (by omega)
  simp only [vecL, List.length_append]; omega
theorem vecL_pos (v : Nat → Int) : 0 < (vecL v).length := by
  have := lebL_pos (vMany v)
  simp only [vecL, List.length_append]; omega

theorem c_vecEncode (v : Nat → Int) (w : World) (hv : VecOk v) : Calls Tryd.prog 35 #[vecV v] w (Ret w [] fun x H1 => RetB 5 x H1 (vecL v)) := by
  refine fn_enter (args := [_]) Tryd.func35 rfl Tryd.ntmps35 rfl (Hp.nil w) ?_
  refine pn_seq ?_
  refine pn_plain [] rfl ?_
  refine TE_box rfl rfl trivial rfl fun b1 hb1 => ?_
  refine TE_q rfl rfl (RD.assign rfl) rfl ?_
  refine TE_nil0 ?_
  refine pn_seq ?_
  refine pn_plain [] rfl ?_
  refine TE_q rfl rfl (RD.assign rfl) rfl ?_
  refine TE_nil0 ?_
  refine pn_seq ?_
  refine pn_seq ?_
  refine pn_plain [] rfl ?_
  refine TE_q rfl rfl (RD.move rfl) rfl ?_
  refine TE_nil0 ?_
  refine pn_block ?_
  refine pn_loop (σ := Nat) (fun i => [(8, .int .i64 (i : Int)), (3, .int .i64 (vManyTo v i : Nat)), (1, .pointer (some ⟨b1, 0, none⟩))]) (fun _ => [(b1, .cells (vecV v).cells 26 (0, 0))]) (fun i => i ≤ 16) (fun i => 16 - i) 0 (by decide) ⟨rfl, rfl, rfl, trivial⟩ (List.Sublist.refl _) ?_
  intro i hi
  refine pn_seq ?_
  refine pn_plain [] rfl ?_
  refine TE_q rfl rfl (RD.lss rfl rfl) rfl ?_
  refine TE_nil0 ?_
  refine pn_seq ?_
  first | refine pn_condD rfl (fun hc0 => ?_) (fun hc0 => ?_) | refine pn_condN rfl (fun hc0 => ?_) (fun hc0 => ?_) | refine pn_cond rfl (fun hc0 => ?_) (fun hc0 => ?_)
  · refine pn_skip ?_
    refine pn_seq ?_
    refine pn_block ?_
    refine pn_seq ?_
    refine pn_plain [] rfl ?_
    refine TE_q rfl rfl (RD.move rfl) rfl ?_
    refine TE_q rfl rfl (RD.assign rfl) rfl ?_
    refine TE_nil0 ?_
    refine pn_seq ?_
    refine pn_plain [] rfl ?_
    refine TE_q rfl rfl (RD.move rfl) rfl ?_
    refine TE_q rfl rfl (RD.indexAddrA Tryd.runUnderlying26 Tryd.sizeOf24 rfl rfl (by omega) (by omega)) rfl ?_
    refine TE_l rfl rfl trivial rfl (RD.load (i := 0) Tryd.isAgg24 rfl rfl (vec_get (by omega) (by omega))) rfl ?_
    refine TE_q rfl rfl (RD.gtr rfl rfl) rfl ?_
    refine TE_nil0 ?_
    first | refine pn_condD rfl (fun hc1 => ?_) (fun hc1 => ?_) | refine pn_condN rfl (fun hc1 => ?_) (fun hc1 => ?_) | refine pn_cond rfl (fun hc1 => ?_) (fun hc1 => ?_)
    · refine pn_plain [] rfl ?_
      refine TE_q rfl rfl (RD.move rfl) rfl ?_
      refine TE_q rfl rfl (RD.addI rfl rfl (by omega) (by omega)) rfl ?_
      refine TE_q rfl rfl (RD.assign rfl) rfl ?_
      refine TE_nil0 ?_
      refine pn_plain [] rfl ?_
      refine TE_q rfl rfl (RD.addI rfl rfl (by omega) (by omega)) rfl ?_
      refine TE_q rfl rfl (RD.move rfl) rfl ?_
      refine TE_nil0 ?_
      (first | exact pn_again (i + 1) (by omega) (by show 16 - (i + 1) < 16 - i; omega) ⟨rfl, by rw [vManyTo_T (k := i) hc1]; rfl, rfl, trivial⟩ (List.Sublist.refl _) | exact pn_again (i + 1) (by omega) (by show 16 - (i + 1) < 16 - i; omega) ⟨rfl, by rw [vManyTo_F (k := i) hc1]; rfl, rfl, trivial⟩ (List.Sublist.refl _))
    · refine pn_skip ?_
      refine pn_plain [] rfl ?_
      refine TE_q rfl rfl (RD.addI rfl rfl (by omega) (by omega)) rfl ?_
      refine TE_q rfl rfl (RD.move rfl) rfl ?_
      refine TE_nil0 ?_
      (first | exact pn_again (i + 1) (by omega) (by show 16 - (i + 1) < 16 - i; omega) ⟨rfl, by rw [vManyTo_T (k := i) hc1]; rfl, rfl, trivial⟩ (List.Sublist.refl _) | exact pn_again (i + 1) (by omega) (by show 16 - (i + 1) < 16 - i; omega) ⟨rfl, by rw [vManyTo_F (k := i) hc1]; rfl, rfl, trivial⟩ (List.Sublist.refl _))
  · refine pn_exit ?_
    refine pn_seq ?_
    refine pn_plain [] rfl ?_
    refine TE_alloc rfl Tryd.zeroValue69 trivial rfl fun b5 hb5 => ?_
    refine TE_nil0 ?_
    refine pn_seq ?_
    refine pn_pick [1, 0] rfl rfl ?_
    refine pn_plain [1] rfl ?_
    refine TE_q rfl rfl (RD.move rfl) rfl ?_
    obtain rfl : i = 16 := (by omega); have h16 : vMany v ≤ 16 := vManyTo_le v 16
    refine TE_q rfl rfl (RD.as (RD.conv Tryd.runUnderlying3 Tryd.runUnderlying74 rfl) (u64_len (by have := vManyTo_le v 16; omega))) rfl ?_
    refine TE_callT [_] _ rfl rfl rfl trivial Tryd.call37 rfl rfl rfl (snk_all0 (u := 5) (l := []) (fun k => _ ≤ k ∨ k ∈ _) (.inl hb5)) (fun w hs => c_sinkNumber b5 (vMany v) [] none w (by omega) rfl (by decide) hs.hp.mid) ?_
    rintro v20 H2 ⟨⟨b', cap', tl'⟩, rfl, rfl, hok1⟩ hX1
    refine TE_nil0 ?_
    refine pn_seq ?_
    refine pn_seq ?_
    refine pn_plain [2] rfl ?_
    refine TE_q rfl rfl (RD.move rfl) rfl ?_
    refine TE_q rfl rfl (RD.sliceA Tryd.runUnderlying26 Tryd.sizeOf24 rfl ⟨_, rfl⟩ h16) rfl ?_
    refine TE_q rfl rfl (RD.len_slice Tryd.runUnderlying103 rfl) rfl ?_
    refine TE_q rfl rfl (RD.move rfl) rfl ?_
    refine TE_nil0 ?_
    refine pn_block ?_
    refine pn_loop (σ := Nat × SnkS) (fun x => [(24, .int .i64 (x.1 : Int)), (23, .int .i64 (vMany v : Nat)), (22, .slice (some ⟨b1, 0, none⟩) (vMany v) 16), (5, .pointer (some ⟨b5, 0, none⟩))]) (fun x => (b1, .cells (vecV v).cells 26 (0, 0)) :: snkM 69 5 b5 (lebL (vMany v) ++ vecU v x.1) x.2) (fun x => x.1 ≤ vMany v ∧ SnkOk (lebL (vMany v) ++ vecU v x.1) x.2 ∧ ∀ e ∈ snkM 69 5 b5 (lebL (vMany v) ++ vecU v x.1) x.2, w.heap.size ≤ e.1 ∨ e.1 ∈ []) (fun x => vMany v - x.1) (0, some (b', cap', tl')) ⟨Nat.zero_le _, by show SnkOk (lebL (vMany v) ++ []) _; rw [List.append_nil]; exact hok1, by show ∀ e ∈ snkM 69 5 b5 (lebL (vMany v) ++ []) _, _; rw [List.append_nil]; exact hX1⟩ ⟨rfl, rfl, rfl, rfl, trivial⟩ (by show List.Sublist (_ :: snkM 69 5 b5 (lebL (vMany v) ++ []) _) _; rw [List.append_nil]; exact List.Sublist.refl _) ?_
    rintro ⟨k, st⟩ ⟨hk, hok, hwh⟩; dsimp only at hk hok hwh ⊢; have h20 := vecU_len hv k; have h21 := lebL_len64 (n := vMany v) (by have := vManyTo_le v 16; unfold vMany; omega); have h22 := hv k; have h16 : vMany v ≤ 16 := vManyTo_le v 16
    refine pn_seq ?_
    refine pn_plain [] rfl ?_
    refine TE_q rfl rfl (RD.lss rfl rfl) rfl ?_
    refine TE_nil0 ?_
    refine pn_seq ?_
    first | refine pn_condD rfl (fun hc2 => ?_) (fun hc2 => ?_) | refine pn_condN rfl (fun hc2 => ?_) (fun hc2 => ?_) | refine pn_cond rfl (fun hc2 => ?_) (fun hc2 => ?_)
    · refine pn_skip ?_
      refine pn_seq ?_
      refine pn_block ?_
      refine pn_seq ?_
      refine pn_plain [] rfl ?_
      refine TE_q rfl rfl (RD.indexAddrS Tryd.runUnderlying103 Tryd.sizeOf24 rfl rfl (by omega) (by omega)) rfl ?_
      refine TE_l rfl rfl trivial rfl (RD.load (i := 0) Tryd.isAgg24 rfl rfl (vec_get (by omega) (by omega))) rfl ?_
      refine TE_q rfl rfl (RD.assign rfl) rfl ?_
      refine TE_nil0 ?_
      refine pn_plain [1] rfl ?_
      refine TE_q rfl rfl (RD.move rfl) rfl ?_
      refine TE_q rfl rfl (RD.as (RD.conv Tryd.runUnderlying24 Tryd.runUnderlying74 rfl) (u64_of (x := v k) (by omega) (by omega))) rfl ?_
      refine TE_callT [_] _ rfl rfl rfl trivial Tryd.call37 rfl rfl rfl hwh (fun w hs => c_sinkNumber b5 (v k).toNat _ _ w (by omega) hok (by simp only [List.length_append]; omega) hs.hp.mid) ?_
      rintro v30 H2 ⟨⟨b2, cap2, tl2⟩, rfl, rfl, hok2⟩ hX2; have hok2' := hok2; rw [List.append_assoc] at hok2'; have hX2' := hX2; rw [List.append_assoc] at hX2'
      refine TE_nil0 ?_
      refine pn_plain [] rfl ?_
      refine TE_q rfl rfl (RD.addI rfl rfl (by omega) (by omega)) rfl ?_
      refine TE_q rfl rfl (RD.move rfl) rfl ?_
      refine TE_nil0 ?_
      (exact pn_again (k + 1, some (b2, cap2, tl2)) ⟨by show k + 1 ≤ vMany v; omega, hok2', hX2'⟩ (by show vMany v - (k + 1) < vMany v - k; omega) ⟨rfl, rfl, rfl, rfl, trivial⟩ (by show List.Sublist (_ :: snkM 69 5 b5 (lebL (vMany v) ++ (vecU v k ++ lebL (v k).toNat)) _) _; rw [← List.append_assoc]; exact List.Sublist.refl _))
    · refine pn_exit ?_
      refine pn_seq ?_
      refine pn_plain [] rfl ?_
      refine TE_call rfl rfl trivial Tryd.call38 rfl rfl rfl (fun w hs => c_sinkAll b5 _ _ w hok (by simp only [List.length_append]; omega) (hs.hp.left.sub (List.sublist_cons_self _ _))) ?_
      rintro v32 H0 hr hX3
      refine TE_q rfl rfl (RD.assign rfl) rfl ?_
      refine TE_nil0 ?_
      refine pn_ret ?_
      obtain rfl : k = vMany v := (by omega); exact pn_done rfl rfl hr (List.sublist_append_left _ _) (fun e he => .inr (hX3 e he))

end Go.Proofs.YthagkkmbbncclaaDoor
