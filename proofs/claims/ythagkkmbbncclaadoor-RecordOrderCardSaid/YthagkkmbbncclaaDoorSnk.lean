import Derived.Test.YthagkkmbbncclaaDoorLeb
import Derived.Test.YthagkkmbbncclaaDoorMvB
namespace Go.Proofs.YthagkkmbbncclaaDoor
open Go Go.Mv
set_option maxRecDepth 4000
theorem elByte : ElI Tryd.prog 5 1 1 (.int .u8 0) := by unfold ElI; kernel_rfl

theorem c_sinkNumber (s n : Nat) (l : List UInt8) (st : SnkS) (w : World) (hn : n < 18446744073709551616) (hok : SnkOk l st) (hl : l.length ≤ 1099511627776) (hw : Hp (snkM 69 5 s l st) w) : Calls Tryd.prog 37 #[(.pointer (some ⟨s, 0, none⟩)), .int .u64 (n : Int)] w (Ret w (keys (snkM 69 5 s l st)) fun v H1 => ∃ st', v = (.pointer (some ⟨s, 0, none⟩)) ∧ H1 = snkM 69 5 s (l ++ lebL n) (some st') ∧ SnkOk (l ++ lebL n) (some st')) := by
  refine fn_enter (args := [_, _]) Tryd.func37 rfl Tryd.ntmps37 rfl hw ?_
  refine pn_seq ?_
  refine pn_plain [] rfl ?_
  refine TE_box rfl rfl trivial rfl fun b2 hb2 => ?_
  refine TE_q rfl rfl (RD.assign rfl) rfl ?_
  refine TE_nil0 ?_
  refine pn_seq ?_
  refine pn_seq ?_
  refine pn_plain [] rfl ?_
  refine TE_l rfl rfl trivial rfl (RD.load (i := 0) Tryd.isAgg70 rfl rfl rfl) rfl ?_
  refine TE_q rfl rfl (RD.ptr_neq_nil Tryd.runUnderlying70 rfl rfl) rfl ?_
  refine TE_nil0 ?_
  refine pn_condT rfl ?_
  refine pn_seq ?_
  refine pn_plain [] rfl ?_
  refine TE_q rfl rfl (RD.move rfl) rfl ?_
  refine TE_call rfl rfl trivial Tryd.call60 rfl rfl rfl (fun w hs' => c_lebParts _ w) ?_
  rintro v9 H1 ⟨bp, rfl, rfl⟩ hbp
  refine TE_nil0 ?_
  refine pn_block ?_
  refine pn_rangeH (τ := Unit) (HI := [(bp, .cells #[.int .u64 (n : Int)] 74 (0, 0))]) (HR := [(b2, .cells #[(.pointer (some ⟨s, 0, none⟩))] 70 (0, 0))]) (it_lebParts n bp hn) (fun (x : List UInt8 × SnkS) => snkM 69 5 s x.1 x.2) (fun pre x => x.1 = l ++ pre ∧ SnkOk x.1 x.2 ∧ (pre ≠ [] → x.2.isSome) ∧ ∀ e ∈ snkM 69 5 s x.1 x.2, e.1 ∈ keys (snkM 69 5 s l st) ∨ w.heap.size ≤ e.1) (fun _ _ _ => False) (l, st) ⟨by simp, hok, by simp, fun e he => .inl (mem_keys.2 ⟨e, he, rfl⟩)⟩ rfl Tryd.call86 (by intro x; rfl) rfl (fun w h => h.perm (List.Perm.cons _ (List.perm_append_comm (l₁ := [_])))) (fun e he => (List.mem_cons.1 he).elim (fun h => .inl (hbp e (by simp [h]))) (fun h => .inr (mem_keys.2 ⟨e, h, rfl⟩))) (fun x _ => [(5, bcell x), (2, .pointer (some ⟨b2, 0, none⟩))]) (fun _ _ => []) (fun _ _ => True) ?_ ?_ ?_ ?_
  · intro W l1 pre x y R hW hG hpre
    refine pn_plain [] rfl ?_
    refine TE_q rfl rfl (RD.assign rfl) rfl ?_
    refine TE_nil0 ?_
    (exact fun a w hr hs => ⟨(), trivial, hr.keeps ⟨rfl, rfl, trivial⟩, hs⟩)
  · rintro W l1 pre x ⟨l', st'⟩ t R hW ⟨hl', hok', hsm, hwh⟩ hpre -
    dsimp only at hl' hok' hsm hwh
    have h10 := lebL_len64 hn
    have hlp := length_of_prefix hpre
    have hll : l'.length ≤ l.length + 10 := by rw [hl', List.length_append]; omega
    refine pn_block ?_
    rcases st' with _ | ⟨b, cap, tl⟩
    · obtain rfl : l' = [] := hok'
      refine pn_drawM [0, 1] [0] [1] (seqT [0, 1, 2, 3, 5] (.fork (seqT [4, 6, 7, 8, 9, 10] .nil) (seqT [6, 4, 7, 8, 9, 10] .nil))) [_, _] R rfl rfl (by kernel_rfl) (by kernel_rfl) rfl rfl ?_
      refine TE_q rfl rfl (RD.load (i := 0) Tryd.isAgg70 rfl rfl rfl) rfl ?_
      refine TE_q rfl rfl (RD.load (i := 0) Tryd.isAgg70 rfl rfl rfl) rfl ?_
      refine TE_q rfl rfl (RD.nilCheckP rfl) rfl ?_
      refine TE_q rfl rfl (RD.fieldAddr (o := 0) Tryd.runUnderlying69 rfl rfl Tryd.sizeOf35 rfl) rfl ?_
      refine TE_q rfl rfl (RD.move rfl) rfl ?_
      refine TE_fork ?_ ?_
      · refine TE_l rfl rfl trivial rfl (RD.load (i := 0) Tryd.isAgg35 rfl rfl rfl) rfl ?_
        refine TE_buildSlice (cells := #[bcell x]) rfl Tryd.runUnderlying35 Tryd.sizeOf5 Tryd.zeroValue5 rfl rfl rfl (by kernel_rfl) trivial rfl fun bv hbv => ?_
        refine TE_appendN (ys := [bcell x]) rfl rfl trivial rfl Tryd.underlying35 elByte rfl rfl rfl rfl (Src.blk (i := 0) (ys := [bcell x]) (tl := []) rfl) rfl (by simp [bcell, Value.oneCell']) (by decide) (by decide) (by decide) ?_
        intro b' cap' tl' h1 h2 h3 h4
        refine TE_q rfl rfl (RD.nilCheckP rfl) rfl ?_
        refine TE_q rfl rfl (RD.fieldAddr (o := 0) Tryd.runUnderlying69 rfl rfl Tryd.sizeOf35 rfl) rfl ?_
        refine TE_store (i := 2) rfl Tryd.sizeOf35 trivial rfl rfl rfl rfl rfl rfl (.inr (by simp [snkM])) ?_
        refine TE_nil ?_
        refine pn_endR (σ := List UInt8 × SnkS) (HJ := fun x => snkM 69 5 s x.1 x.2) (s := ([], none)) (l := l1) (R := R) ([] ++ [x], some (b', cap', tl')) rfl ⟨by show _ = l ++ (pre ++ [x]); rw [← List.append_assoc, ← hl'], SnkOk_app (l := []) h1 h2 h3, by simp, snk_all (fun k => k ∈ keys (snkM 69 5 s l st) ∨ w.heap.size ≤ k) (snk_s (fun k => k ∈ keys (snkM 69 5 s l st) ∨ w.heap.size ≤ k) hwh) (.inr (Nat.le_trans hW.size h4))⟩ (fun w h => ?_) (snk_all (fun k => k ∈ keys (snkM 69 5 s [] none) ∨ W.heap.size ≤ k) (snk_s (fun k => k ∈ keys (snkM 69 5 s [] none) ∨ W.heap.size ≤ k) in_keys) (.inr h4))
        exact (h.sub (H' := _ :: _ :: R) (List.Sublist.cons_cons _ (List.Sublist.cons _ (List.Sublist.cons_cons _ (List.sublist_cons_self _ _))))).perm (.swap _ _ _)
      · refine TE_buildSlice (cells := #[bcell x]) rfl Tryd.runUnderlying35 Tryd.sizeOf5 Tryd.zeroValue5 rfl rfl rfl (by kernel_rfl) trivial rfl fun bv hbv => ?_
        refine TE_l rfl rfl trivial rfl (RD.load (i := 1) Tryd.isAgg35 rfl rfl rfl) rfl ?_
        refine TE_appendN (ys := [bcell x]) rfl rfl trivial rfl Tryd.underlying35 elByte rfl rfl rfl rfl (Src.blk (i := 0) (ys := [bcell x]) (tl := []) rfl) rfl (by simp [bcell, Value.oneCell']) (by decide) (by decide) (by decide) ?_
        intro b' cap' tl' h1 h2 h3 h4
        refine TE_q rfl rfl (RD.nilCheckP rfl) rfl ?_
        refine TE_q rfl rfl (RD.fieldAddr (o := 0) Tryd.runUnderlying69 rfl rfl Tryd.sizeOf35 rfl) rfl ?_
        refine TE_store (i := 2) rfl Tryd.sizeOf35 trivial rfl rfl rfl rfl rfl rfl (.inr (by simp [snkM])) ?_
        refine TE_nil ?_
        refine pn_endR (σ := List UInt8 × SnkS) (HJ := fun x => snkM 69 5 s x.1 x.2) (s := ([], none)) (l := l1) (R := R) ([] ++ [x], some (b', cap', tl')) rfl ⟨by show _ = l ++ (pre ++ [x]); rw [← List.append_assoc, ← hl'], SnkOk_app (l := []) h1 h2 h3, by simp, snk_all (fun k => k ∈ keys (snkM 69 5 s l st) ∨ w.heap.size ≤ k) (snk_s (fun k => k ∈ keys (snkM 69 5 s l st) ∨ w.heap.size ≤ k) hwh) (.inr (Nat.le_trans hW.size h4))⟩ (fun w h => ?_) (snk_all (fun k => k ∈ keys (snkM 69 5 s [] none) ∨ W.heap.size ≤ k) (snk_s (fun k => k ∈ keys (snkM 69 5 s [] none) ∨ W.heap.size ≤ k) in_keys) (.inr h4))
        exact (h.sub (H' := _ :: _ :: R) (List.Sublist.cons_cons _ (List.Sublist.cons _ (List.Sublist.cons_cons _ (List.sublist_cons_self _ _))))).perm (.swap _ _ _)
    · refine pn_drawM [0, 1] [0, 1] [2] (seqT [0, 1, 2, 3, 5] (.fork (seqT [4, 6, 7, 8, 9, 10] .nil) (seqT [6, 4, 7, 8, 9, 10] .nil))) [_, _, _] R rfl rfl (by kernel_rfl) (by kernel_rfl) rfl rfl ?_
      refine TE_q rfl rfl (RD.load (i := 0) Tryd.isAgg70 rfl rfl rfl) rfl ?_
      refine TE_q rfl rfl (RD.load (i := 0) Tryd.isAgg70 rfl rfl rfl) rfl ?_
      refine TE_q rfl rfl (RD.nilCheckP rfl) rfl ?_
      refine TE_q rfl rfl (RD.fieldAddr (o := 0) Tryd.runUnderlying69 rfl rfl Tryd.sizeOf35 rfl) rfl ?_
      refine TE_q rfl rfl (RD.move rfl) rfl ?_
      refine TE_fork ?_ ?_
      · refine TE_l rfl rfl trivial rfl (RD.load (i := 0) Tryd.isAgg35 rfl rfl rfl) rfl ?_
        refine TE_buildSlice (cells := #[bcell x]) rfl Tryd.runUnderlying35 Tryd.sizeOf5 Tryd.zeroValue5 rfl rfl rfl (by kernel_rfl) trivial rfl fun bv hbv => ?_
        refine TE_appendS (i := 2) (n := l'.length) (xs := bcells l') (tl := tl) (ys := [bcell x]) rfl rfl trivial rfl Tryd.underlying35 elByte rfl rfl rfl rfl rfl (by simp) hok'.2.2 hok'.1 hok'.2.1 (Src.blk (i := 0) (ys := [bcell x]) (tl := []) rfl) rfl (by simp [bcell, Value.oneCell']) (by decide) (maxLen_ge (by omega)) (by omega) (.inr (by simp [snkM])) ?_
        intro b' cap' tl' h1 h2 h3 h4
        refine TE_q rfl rfl (RD.nilCheckP rfl) rfl ?_
        refine TE_q rfl rfl (RD.fieldAddr (o := 0) Tryd.runUnderlying69 rfl rfl Tryd.sizeOf35 rfl) rfl ?_
        refine TE_store (i := 1) rfl Tryd.sizeOf35 trivial rfl rfl rfl rfl rfl rfl (.inr (by simp [snkM])) ?_
        refine TE_nil ?_
        refine pn_endR (σ := List UInt8 × SnkS) (HJ := fun x => snkM 69 5 s x.1 x.2) (s := (l', some (b, cap, tl))) (l := l1) (R := R) (l' ++ [x], some (b', cap', tl')) rfl ⟨by show _ = l ++ (pre ++ [x]); rw [← List.append_assoc, ← hl'], SnkOk_app h1 h2 h3, by simp, snk_all (fun k => k ∈ keys (snkM 69 5 s l st) ∨ w.heap.size ≤ k) (snk_s (fun k => k ∈ keys (snkM 69 5 s l st) ∨ w.heap.size ≤ k) hwh) (h4.elim (fun h => h ▸ snk_b (fun k => k ∈ keys (snkM 69 5 s l st) ∨ w.heap.size ≤ k) hwh) (fun h => .inr (Nat.le_trans hW.size h)))⟩ (fun w h => ?_) (snk_all (fun k => k ∈ keys (snkM 69 5 s l' (some (b, cap, tl))) ∨ W.heap.size ≤ k) (snk_s (fun k => k ∈ keys (snkM 69 5 s l' (some (b, cap, tl))) ∨ W.heap.size ≤ k) in_keys) (h4.elim (fun h => h ▸ snk_b (fun k => k ∈ keys (snkM 69 5 s l' (some (b, cap, tl))) ∨ W.heap.size ≤ k) in_keys) .inr))
        show Hp (snkM 69 5 s (l' ++ [x]) (some (b', cap', tl')) ++ R) w; rw [snk_app]; exact h.sub (List.Sublist.cons _ (List.Sublist.cons_cons _ (List.Sublist.cons_cons _ (List.sublist_cons_self _ _))))
      · refine TE_buildSlice (cells := #[bcell x]) rfl Tryd.runUnderlying35 Tryd.sizeOf5 Tryd.zeroValue5 rfl rfl rfl (by kernel_rfl) trivial rfl fun bv hbv => ?_
        refine TE_l rfl rfl trivial rfl (RD.load (i := 1) Tryd.isAgg35 rfl rfl rfl) rfl ?_
        refine TE_appendS (i := 2) (n := l'.length) (xs := bcells l') (tl := tl) (ys := [bcell x]) rfl rfl trivial rfl Tryd.underlying35 elByte rfl rfl rfl rfl rfl (by simp) hok'.2.2 hok'.1 hok'.2.1 (Src.blk (i := 0) (ys := [bcell x]) (tl := []) rfl) rfl (by simp [bcell, Value.oneCell']) (by decide) (maxLen_ge (by omega)) (by omega) (.inr (by simp [snkM])) ?_
        intro b' cap' tl' h1 h2 h3 h4
        refine TE_q rfl rfl (RD.nilCheckP rfl) rfl ?_
        refine TE_q rfl rfl (RD.fieldAddr (o := 0) Tryd.runUnderlying69 rfl rfl Tryd.sizeOf35 rfl) rfl ?_
        refine TE_store (i := 1) rfl Tryd.sizeOf35 trivial rfl rfl rfl rfl rfl rfl (.inr (by simp [snkM])) ?_
        refine TE_nil ?_
        refine pn_endR (σ := List UInt8 × SnkS) (HJ := fun x => snkM 69 5 s x.1 x.2) (s := (l', some (b, cap, tl))) (l := l1) (R := R) (l' ++ [x], some (b', cap', tl')) rfl ⟨by show _ = l ++ (pre ++ [x]); rw [← List.append_assoc, ← hl'], SnkOk_app h1 h2 h3, by simp, snk_all (fun k => k ∈ keys (snkM 69 5 s l st) ∨ w.heap.size ≤ k) (snk_s (fun k => k ∈ keys (snkM 69 5 s l st) ∨ w.heap.size ≤ k) hwh) (h4.elim (fun h => h ▸ snk_b (fun k => k ∈ keys (snkM 69 5 s l st) ∨ w.heap.size ≤ k) hwh) (fun h => .inr (Nat.le_trans hW.size h)))⟩ (fun w h => ?_) (snk_all (fun k => k ∈ keys (snkM 69 5 s l' (some (b, cap, tl))) ∨ W.heap.size ≤ k) (snk_s (fun k => k ∈ keys (snkM 69 5 s l' (some (b, cap, tl))) ∨ W.heap.size ≤ k) in_keys) (h4.elim (fun h => h ▸ snk_b (fun k => k ∈ keys (snkM 69 5 s l' (some (b, cap, tl))) ∨ W.heap.size ≤ k) in_keys) .inr))
        show Hp (snkM 69 5 s (l' ++ [x]) (some (b', cap', tl')) ++ R) w; rw [snk_app]; exact h.sub (List.Sublist.cons _ (List.Sublist.cons_cons _ (List.Sublist.cons_cons _ (List.sublist_cons_self _ _))))
  · rintro D HI' ⟨l', st'⟩ hD ⟨hl', hok', hsm, hwh⟩ rfl; dsimp only at hl' hok' hsm hwh; subst hl'; rcases st' with _ | ⟨b, cap, tl⟩; (have := hsm (by intro h; have := lebL_pos n; rw [h] at this; simp at this); simp at this)
    refine pn_seq ?_
    refine pn_plain [] rfl ?_
    refine TE_l rfl rfl trivial rfl (RD.load (i := 3) Tryd.isAgg70 rfl rfl rfl) rfl ?_
    refine TE_q rfl rfl (RD.assign rfl) rfl ?_
    refine TE_nil0 ?_
    refine pn_ret ?_
    exact pn_doneC [_, _] [_] rfl rfl rfl ⟨_, rfl, rfl, hok'⟩ (List.sublist_append_left _ _) (fun e he => hwh e he) hD
  · rintro D HI' c pre y hD hpre hS hF; exact hS.elim

end Go.Proofs.YthagkkmbbncclaaDoor
