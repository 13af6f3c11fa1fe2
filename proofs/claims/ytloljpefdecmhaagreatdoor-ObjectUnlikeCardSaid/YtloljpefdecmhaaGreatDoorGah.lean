import Derived.Test.YtloljpefdecmhaaGreatDoorGag
import Derived.Test.YtloljpefdecmhaaGreatDoorProg
import Derived.Test.YtloljpefdecmhaaGreatDoorShl
namespace Go.Proofs.YtloljpefdecmhaaGreatDoor
open Go Go.Mv
set_option maxRecDepth 4000
theorem elByte : ElI Tryz.prog 5 1 1 (.int .u8 0) := by unfold ElI; kernel_rfl

theorem c_sinkNumber (s n : Nat) (l : List UInt8) (st : SnkS) (w : World) (hn : n < 18446744073709551616) (hok : SnkOk l st) (hl : l.length ≤ 1099511627776) (hw : Hp (snkM 114 5 s l st) w) : Calls Tryz.prog 184 #[(.pointer (some ⟨s, 0, none⟩)), .int .u64 (n : Int)] w (Ret w (keys (snkM 114 5 s l st)) fun v H1 => ∃ st', v = (.pointer (some ⟨s, 0, none⟩)) ∧ H1 = snkM 114 5 s (l ++ lebL n) (some st') ∧ SnkOk (l ++ lebL n) (some st')) := by
  refine fn_enter (args := [_, _]) Tryz.func184 rfl Tryz.ntmps184 rfl hw ?_
  refine pn_seq ?_
  refine pn_plain [] rfl ?_
  refine TE_box rfl rfl trivial rfl fun b2 hb2 => ?_
  refine TE_q rfl rfl (RD.assign rfl) rfl ?_
  refine TE_nil0 ?_
  refine pn_seq ?_
  refine pn_seq ?_
  refine pn_plain [] rfl ?_
  refine TE_l rfl rfl trivial rfl (RD.load (i := 0) Tryz.isAgg115 rfl rfl rfl) rfl ?_
  refine TE_q rfl rfl (RD.ptr_neq_nil Tryz.runUnderlying115 rfl rfl) rfl ?_
  refine TE_nil0 ?_
  refine pn_condT rfl ?_
  refine pn_seq ?_
  refine pn_plain [] rfl ?_
  refine TE_q rfl rfl (RD.move rfl) rfl ?_
  refine TE_call rfl rfl trivial Tryz.call185 rfl rfl rfl (fun w hs' => c_lebParts _ w) ?_
  rintro v9 H1 ⟨bp, rfl, rfl⟩ hbp
  refine TE_nil0 ?_
  refine pn_block ?_
  refine pn_rangeH (τ := Unit) (HI := [(bp, .cells #[.int .u64 (n : Int)] 133 (0, 0))]) (HR := [(b2, .cells #[(.pointer (some ⟨s, 0, none⟩))] 115 (0, 0))]) (it_lebParts n bp hn) (fun (x : List UInt8 × SnkS) => snkM 114 5 s x.1 x.2) (fun pre x => x.1 = l ++ pre ∧ SnkOk x.1 x.2 ∧ (pre ≠ [] → x.2.isSome) ∧ ∀ e ∈ snkM 114 5 s x.1 x.2, e.1 ∈ keys (snkM 114 5 s l st) ∨ w.heap.size ≤ e.1) (fun _ _ _ => False) (l, st) ⟨by simp, hok, by simp, fun e he => .inl (mem_keys.2 ⟨e, he, rfl⟩)⟩ rfl Tryz.call186 (by intro x; rfl) rfl (fun w h => h.perm (List.Perm.cons _ (List.perm_append_comm (l₁ := [_])))) (fun e he => (List.mem_cons.1 he).elim (fun h => .inl (hbp e (by simp [h]))) (fun h => .inr (mem_keys.2 ⟨e, h, rfl⟩))) (fun x _ => [(5, bcell x), (2, .pointer (some ⟨b2, 0, none⟩))]) (fun _ _ => []) (fun _ _ => True) ?_ ?_ ?_ ?_
  · intro W l1 pre x y R hW hG hpre
    refine pn_plain [] rfl ?_
    refine TE_q rfl rfl (RD.assign rfl) rfl ?_
    refine TE_nil0 ?_
    (exact fun a w hr hs => ⟨(), trivial, hr.keeps ⟨rfl, rfl, trivial⟩, hs⟩)
  · rintro W l1 pre x ⟨l', st'⟩ t R hW ⟨hl', hok', hsm, hwh⟩ hpre -
    dsimp only at hl' hok' hsm hwh
    have h10 := lebL_len64 hn
    have hlp := length_of_prefix hpre
    have hll : l'.length ≤ l.length + 10 := by rw [hl', List.length_append]; omega
    refine pn_block ?_
    rcases st' with _ | ⟨b, cap, tl⟩
    · obtain rfl : l' = [] := hok'
      refine pn_drawM [0, 1] [0] [1] (seqT [0, 1, 2, 3, 5] (.fork (seqT [4, 6, 7, 8, 9, 10] .nil) (seqT [6, 4, 7, 8, 9, 10] .nil))) [_, _] R rfl rfl (by kernel_rfl) (by kernel_rfl) rfl rfl ?_
      refine TE_q rfl rfl (RD.load (i := 0) Tryz.isAgg115 rfl rfl rfl) rfl ?_
      refine TE_q rfl rfl (RD.load (i := 0) Tryz.isAgg115 rfl rfl rfl) rfl ?_
      refine TE_q rfl rfl (RD.nilCheckP rfl) rfl ?_
      refine TE_q rfl rfl (RD.fieldAddr (o := 0) Tryz.runUnderlying114 rfl rfl Tryz.sizeOf32 rfl) rfl ?_
      refine TE_q rfl rfl (RD.move rfl) rfl ?_
      refine TE_fork ?_ ?_
      · refine TE_l rfl rfl trivial rfl (RD.load (i := 0) Tryz.isAgg32 rfl rfl rfl) rfl ?_
        refine TE_buildSlice (cells := #[bcell x]) rfl Tryz.runUnderlying32 Tryz.sizeOf5 Tryz.zeroValue5 rfl rfl rfl (by kernel_rfl) trivial rfl fun bv hbv => ?_
        refine TE_appendN (ys := [bcell x]) rfl rfl trivial rfl Tryz.underlying32 elByte rfl rfl rfl rfl (Src.blk (i := 0) (ys := [bcell x]) (tl := []) rfl) rfl (by simp [bcell, Value.oneCell']) (by decide) (by decide) (by decide) ?_
        intro b' cap' tl' h1 h2 h3 h4
        refine TE_q rfl rfl (RD.nilCheckP rfl) rfl ?_
        refine TE_q rfl rfl (RD.fieldAddr (o := 0) Tryz.runUnderlying114 rfl rfl Tryz.sizeOf32 rfl) rfl ?_
        refine TE_store (i := 2) rfl Tryz.sizeOf32 trivial rfl rfl rfl rfl rfl rfl (.inr (by simp [snkM])) ?_
        refine TE_nil ?_
        refine pn_endR (σ := List UInt8 × SnkS) (HJ := fun x => snkM 114 5 s x.1 x.2) (s := ([], none)) (l := l1) (R := R) ([] ++ [x], some (b', cap', tl')) rfl ⟨by show _ = l ++ (pre ++ [x]); rw [← List.append_assoc, ← hl'], SnkOk_app (l := []) h1 h2 h3, by simp, snk_all (fun k => k ∈ keys (snkM 114 5 s l st) ∨ w.heap.size ≤ k) (snk_s (fun k => k ∈ keys (snkM 114 5 s l st) ∨ w.heap.size ≤ k) hwh) (.inr (Nat.le_trans hW.size h4))⟩ (fun w h => ?_) (snk_all (fun k => k ∈ keys (snkM 114 5 s [] none) ∨ W.heap.size ≤ k) (snk_s (fun k => k ∈ keys (snkM 114 5 s [] none) ∨ W.heap.size ≤ k) in_keys) (.inr h4))
        exact (h.sub (H' := _ :: _ :: R) (List.Sublist.cons_cons _ (List.Sublist.cons _ (List.Sublist.cons_cons _ (List.sublist_cons_self _ _))))).perm (.swap _ _ _)
      · refine TE_buildSlice (cells := #[bcell x]) rfl Tryz.runUnderlying32 Tryz.sizeOf5 Tryz.zeroValue5 rfl rfl rfl (by kernel_rfl) trivial rfl fun bv hbv => ?_
        refine TE_l rfl rfl trivial rfl (RD.load (i := 1) Tryz.isAgg32 rfl rfl rfl) rfl ?_
        refine TE_appendN (ys := [bcell x]) rfl rfl trivial rfl Tryz.underlying32 elByte rfl rfl rfl rfl (Src.blk (i := 0) (ys := [bcell x]) (tl := []) rfl) rfl (by simp [bcell, Value.oneCell']) (by decide) (by decide) (by decide) ?_
        intro b' cap' tl' h1 h2 h3 h4
        refine TE_q rfl rfl (RD.nilCheckP rfl) rfl ?_
        refine TE_q rfl rfl (RD.fieldAddr (o := 0) Tryz.runUnderlying114 rfl rfl Tryz.sizeOf32 rfl) rfl ?_
        refine TE_store (i := 2) rfl Tryz.sizeOf32 trivial rfl rfl rfl rfl rfl rfl (.inr (by simp [snkM])) ?_
        refine TE_nil ?_
        refine pn_endR (σ := List UInt8 × SnkS) (HJ := fun x => snkM 114 5 s x.1 x.2) (s := ([], none)) (l := l1) (R := R) ([] ++ [x], some (b', cap', tl')) rfl ⟨by show _ = l ++ (pre ++ [x]); rw [← List.append_assoc, ← hl'], SnkOk_app (l := []) h1 h2 h3, by simp, snk_all (fun k => k ∈ keys (snkM 114 5 s l st) ∨ w.heap.size ≤ k) (snk_s (fun k => k ∈ keys (snkM 114 5 s l st) ∨ w.heap.size ≤ k) hwh) (.inr (Nat.le_trans hW.size h4))⟩ (fun w h => ?_) (snk_all (fun k => k ∈ keys (snkM 114 5 s [] none) ∨ W.heap.size ≤ k) (snk_s (fun k => k ∈ keys (snkM 114 5 s [] none) ∨ W.heap.size ≤ k) in_keys) (.inr h4))
        exact (h.sub (H' := _ :: _ :: R) (List.Sublist.cons_cons _ (List.Sublist.cons _ (List.Sublist.cons_cons _ (List.sublist_cons_self _ _))))).perm (.swap _ _ _)
    · refine pn_drawM [0, 1] [0, 1] [2] (seqT [0, 1, 2, 3, 5] (.fork (seqT [4, 6, 7, 8, 9, 10] .nil) (seqT [6, 4, 7, 8, 9, 10] .nil))) [_, _, _] R rfl rfl (by kernel_rfl) (by kernel_rfl) rfl rfl ?_
      refine TE_q rfl rfl (RD.load (i := 0) Tryz.isAgg115 rfl rfl rfl) rfl ?_
      refine TE_q rfl rfl (RD.load (i := 0) Tryz.isAgg115 rfl rfl rfl) rfl ?_
      refine TE_q rfl rfl (RD.nilCheckP rfl) rfl ?_
      refine TE_q rfl rfl (RD.fieldAddr (o := 0) Tryz.runUnderlying114 rfl rfl Tryz.sizeOf32 rfl) rfl ?_
      refine TE_q rfl rfl (RD.move rfl) rfl ?_
      refine TE_fork ?_ ?_
      · refine TE_l rfl rfl trivial rfl (RD.load (i := 0) Tryz.isAgg32 rfl rfl rfl) rfl ?_
        refine TE_buildSlice (cells := #[bcell x]) rfl Tryz.runUnderlying32 Tryz.sizeOf5 Tryz.zeroValue5 rfl rfl rfl (by kernel_rfl) trivial rfl fun bv hbv => ?_
        refine TE_appendS (i := 2) (n := l'.length) (xs := bcells l') (tl := tl) (ys := [bcell x]) rfl rfl trivial rfl Tryz.underlying32 elByte rfl rfl rfl rfl rfl (by simp) hok'.2.2 hok'.1 hok'.2.1 (Src.blk (i := 0) (ys := [bcell x]) (tl := []) rfl) rfl (by simp [bcell, Value.oneCell']) (by decide) (maxLen_ge (by omega)) (by omega) (.inr (by simp [snkM])) ?_
        intro b' cap' tl' h1 h2 h3 h4
        refine TE_q rfl rfl (RD.nilCheckP rfl) rfl ?_
        refine TE_q rfl rfl (RD.fieldAddr (o := 0) Tryz.runUnderlying114 rfl rfl Tryz.sizeOf32 rfl) rfl ?_
        refine TE_store (i := 1) rfl Tryz.sizeOf32 trivial rfl rfl rfl rfl rfl rfl (.inr (by simp [snkM])) ?_
        refine TE_nil ?_
        refine pn_endR (σ := List UInt8 × SnkS) (HJ := fun x => snkM 114 5 s x.1 x.2) (s := (l', some (b, cap, tl))) (l := l1) (R := R) (l' ++ [x], some (b', cap', tl')) rfl ⟨by show _ = l ++ (pre ++ [x]); rw [← List.append_assoc, ← hl'], SnkOk_app h1 h2 h3, by simp, snk_all (fun k => k ∈ keys (snkM 114 5 s l st) ∨ w.heap.size ≤ k) (snk_s (fun k => k ∈ keys (snkM 114 5 s l st) ∨ w.heap.size ≤ k) hwh) (h4.elim (fun h => h ▸ snk_b (fun k => k ∈ keys (snkM 114 5 s l st) ∨ w.heap.size ≤ k) hwh) (fun h => .inr (Nat.le_trans hW.size h)))⟩ (fun w h => ?_) (snk_all (fun k => k ∈ keys (snkM 114 5 s l' (some (b, cap, tl))) ∨ W.heap.size ≤ k) (snk_s (fun k => k ∈ keys (snkM 114 5 s l' (some (b, cap, tl))) ∨ W.heap.size ≤ k) in_keys) (h4.elim (fun h => h ▸ snk_b (fun k => k ∈ keys (snkM 114 5 s l' (some (b, cap, tl))) ∨ W.heap.size ≤ k) in_keys) .inr))
        show Hp (snkM 114 5 s (l' ++ [x]) (some (b', cap', tl')) ++ R) w; rw [snk_app]; exact h.sub (List.Sublist.cons _ (List.Sublist.cons_cons _ (List.Sublist.cons_cons _ (List.sublist_cons_self _ _))))
      · refine TE_buildSlice (cells := #[bcell x]) rfl Tryz.runUnderlying32 Tryz.sizeOf5 Tryz.zeroValue5 rfl rfl rfl (by kernel_rfl) trivial rfl fun bv hbv => ?_
        refine TE_l rfl rfl trivial rfl (RD.load (i := 1) Tryz.isAgg32 rfl rfl rfl) rfl ?_
        refine TE_appendS (i := 2) (n := l'.length) (xs := bcells l') (tl := tl) (ys := [bcell x]) rfl rfl trivial rfl Tryz.underlying32 elByte rfl rfl rfl rfl rfl (by simp) hok'.2.2 hok'.1 hok'.2.1 (Src.blk (i := 0) (ys := [bcell x]) (tl := []) rfl) rfl (by simp [bcell, Value.oneCell']) (by decide) (maxLen_ge (by omega)) (by omega) (.inr (by simp [snkM])) ?_
        intro b' cap' tl' h1 h2 h3 h4
        refine TE_q rfl rfl (RD.nilCheckP rfl) rfl ?_
        refine TE_q rfl rfl (RD.fieldAddr (o := 0) Tryz.runUnderlying114 rfl rfl Tryz.sizeOf32 rfl) rfl ?_
        refine TE_store (i := 1) rfl Tryz.sizeOf32 trivial rfl rfl rfl rfl rfl rfl (.inr (by simp [snkM])) ?_
        refine TE_nil ?_
        refine pn_endR (σ := List UInt8 × SnkS) (HJ := fun x => snkM 114 5 s x.1 x.2) (s := (l', some (b, cap, tl))) (l := l1) (R := R) (l' ++ [x], some (b', cap', tl')) rfl ⟨by show _ = l ++ (pre ++ [x]); rw [← List.append_assoc, ← hl'], SnkOk_app h1 h2 h3, by simp, snk_all (fun k => k ∈ keys (snkM 114 5 s l st) ∨ w.heap.size ≤ k) (snk_s (fun k => k ∈ keys (snkM 114 5 s l st) ∨ w.heap.size ≤ k) hwh) (h4.elim (fun h => h ▸ snk_b (fun k => k ∈ keys (snkM 114 5 s l st) ∨ w.heap.size ≤ k) hwh) (fun h => .inr (Nat.le_trans hW.size h)))⟩ (fun w h => ?_) (snk_all (fun k => k ∈ keys (snkM 114 5 s l' (some (b, cap, tl))) ∨ W.heap.size ≤ k) (snk_s (fun k => k ∈ keys (snkM 114 5 s l' (some (b, cap, tl))) ∨ W.heap.size ≤ k) in_keys) (h4.elim (fun h => h ▸ snk_b (fun k => k ∈ keys (snkM 114 5 s l' (some (b, cap, tl))) ∨ W.heap.size ≤ k) in_keys) .inr))
        show Hp (snkM 114 5 s (l' ++ [x]) (some (b', cap', tl')) ++ R) w; rw [snk_app]; exact h.sub (List.Sublist.cons _ (List.Sublist.cons_cons _ (List.Sublist.cons_cons _ (List.sublist_cons_self _ _))))
  · rintro D HI' ⟨l', st'⟩ hD ⟨hl', hok', hsm, hwh⟩ rfl; dsimp only at hl' hok' hsm hwh; subst hl'; rcases st' with _ | ⟨b, cap, tl⟩; (have := hsm (by intro h; have := lebL_pos n; rw [h] at this; simp at this); simp at this)
    refine pn_seq ?_
    refine pn_plain [] rfl ?_
    refine TE_l rfl rfl trivial rfl (RD.load (i := 3) Tryz.isAgg115 rfl rfl rfl) rfl ?_
    refine TE_q rfl rfl (RD.assign rfl) rfl ?_
    refine TE_nil0 ?_
    refine pn_ret ?_
    exact pn_doneC [_, _] [_] rfl rfl rfl ⟨_, rfl, rfl, hok'⟩ (List.sublist_append_left _ _) (fun e he => hwh e he) hD
  · rintro D HI' c pre y hD hpre hS hF; exact hS.elim

end Go.Proofs.YtloljpefdecmhaaGreatDoor

namespace Go.Proofs.YtloljpefdecmhaaGreatDoor
open Go Go.Mv
set_option maxRecDepth 4000
theorem c_clone (H : Mem) (xv : Value) (ys : List UInt8) (w : World) (hH : Hp H w) (hb : BytesIn H xv ys) (hlen : ys.length ≤ 2199023255552) : Calls Tryz.prog 107 #[xv] w (Ret w [] fun v H1 => RetB 5 v H1 ys) := by
  have hb0 := hb
  obtain ⟨a, c, rfl, hb⟩ := hb
  refine fn_enter (args := [_]) Tryz.func107 rfl Tryz.ntmps107 rfl hH ?_
  refine pn_seq ?_
  refine pn_plain [] rfl ?_
  refine TE_q rfl rfl (RD.assign rfl) rfl ?_
  refine TE_nil0 ?_
  refine pn_seq ?_
  refine pn_seq ?_
  refine pn_plain [] rfl ?_
  refine TE_q rfl rfl (RD.move rfl) rfl ?_
  refine TE_q rfl rfl (RD.sl_eql_nil Tryz.runUnderlying32 rfl rfl) rfl ?_
  refine TE_nil0 ?_
  rcases a with _ | ad
  · have hy : ys = [] := Classical.byContradiction fun h => by obtain ⟨_, h', _⟩ := hb h; cases h'
    subst hy
    refine pn_condT rfl ?_
    refine pn_seq ?_
    refine pn_plain [] rfl ?_
    refine TE_q rfl rfl (RD.assign rfl) rfl ?_
    refine TE_nil0 ?_
    refine pn_ret ?_
    exact pn_done rfl rfl (.inr ⟨rfl, rfl, rfl⟩) (List.nil_sublist _) (by simp)
  · refine pn_condF rfl ?_
    refine pn_skip ?_
    refine pn_seq ?_
    refine pn_plain [] rfl ?_
    refine TE_buildSlice0 rfl Tryz.runUnderlying32 Tryz.sizeOf5 trivial rfl fun b5 hb5 => ?_
    refine TE_q rfl rfl (RD.move rfl) rfl ?_
    by_cases hy : ys = []
    · subst hy
      refine TE_l rfl rfl trivial rfl (RD.append0 Tryz.underlying32 elByte rfl rfl (Nat.zero_le _)) rfl ?_
      refine TE_q rfl rfl (RD.assign rfl) rfl ?_
      refine TE_nil0 ?_
      refine pn_ret ?_
      exact pn_done rfl rfl (.inl ⟨b5, 0, [], rfl, rfl, Nat.zero_le _, by decide, rfl⟩) (List.Sublist.cons_cons _ (List.nil_sublist _)) (by simp; exact hb5)
    · refine TE_appendS (i := 0) (n := 0) (xs := []) (tl := []) (ys := bcells ys) rfl rfl trivial rfl Tryz.underlying32 elByte rfl rfl rfl rfl rfl rfl rfl (Nat.le_refl _) (by decide) (hb0.src hy (fun w hw => hw.left.sub (List.sublist_cons_self _ _))) (by simp) (bcells_one _) (List.length_pos_iff.2 hy) (maxLen_ge (by omega)) (by omega) (.inl hb5) ?_
      intro b' cap' tl' h1 h2 h3 h4
      refine TE_q rfl rfl (RD.assign rfl) rfl ?_
      refine TE_nil0 ?_
      refine pn_ret ?_
      exact pn_done rfl rfl (.inl ⟨b', cap', tl', by show Value.slice _ (0 + ys.length) _ = _; rw [Nat.zero_add], rfl, by omega, h2, by simpa using h3⟩) (List.Sublist.cons_cons _ (List.nil_sublist _)) (by simp; rcases h4 with rfl | h4; exact hb5; exact h4)

theorem c_sinkAll (s : Nat) (l : List UInt8) (st : SnkS) (w : World) (hok : SnkOk l st) (hl : l.length ≤ 2199023255552) (hw : Hp (snkM 114 5 s l st) w) : Calls Tryz.prog 62 #[.pointer (some ⟨s, 0, none⟩)] w (Ret w [] fun v H1 => RetB 5 v H1 l) := by
  refine fn_enter (args := [_]) Tryz.func62 rfl Tryz.ntmps62 rfl hw ?_
  refine pn_seq ?_
  refine pn_plain [] rfl ?_
  refine TE_q rfl rfl (RD.assign rfl) rfl ?_
  refine TE_nil0 ?_
  refine pn_seq ?_
  refine pn_seq ?_
  refine pn_plain [] rfl ?_
  refine TE_q rfl rfl (RD.move rfl) rfl ?_
  refine TE_q rfl rfl (RD.ptr_eql_nil Tryz.runUnderlying115 rfl rfl) rfl ?_
  refine TE_nil0 ?_
  refine pn_condF rfl ?_
  refine pn_skip ?_
  refine pn_seq ?_
  refine pn_plain [] rfl ?_
  refine TE_q rfl rfl (RD.move rfl) rfl ?_
  refine TE_q rfl rfl (RD.nilCheckP rfl) rfl ?_
  refine TE_q rfl rfl (RD.fieldAddr (o := 0) Tryz.runUnderlying114 rfl rfl Tryz.sizeOf32 rfl) rfl ?_
  rcases st with _ | ⟨b, cap, tl⟩
  · obtain rfl : l = [] := hok
    refine TE_l rfl rfl trivial rfl (RD.load (i := 0) Tryz.isAgg32 rfl rfl rfl) rfl ?_
    refine TE_call rfl rfl trivial Tryz.call107 rfl rfl rfl (fun w hs => c_clone [] _ [] w (Hp.nil _) BytesIn.nil (by decide)) ?_
    rintro v9 H4 hr hn
    refine TE_q rfl rfl (RD.assign rfl) rfl ?_
    refine TE_nil0 ?_
    refine pn_ret ?_
    exact pn_done rfl rfl hr (List.sublist_append_left _ _) (fun e he => .inr (hn e he))
  · refine TE_l rfl rfl trivial rfl (RD.load (i := 0) Tryz.isAgg32 rfl rfl rfl) rfl ?_
    refine TE_call rfl rfl trivial Tryz.call107 rfl rfl rfl (fun w hs => c_clone _ _ l w hs.hp (BytesIn.blk (i := 1) (tl := tl) rfl) hl) ?_
    rintro v9 H4 hr hn
    refine TE_q rfl rfl (RD.assign rfl) rfl ?_
    refine TE_nil0 ?_
    refine pn_ret ?_
    exact pn_done rfl rfl hr (List.sublist_append_left _ _) (fun e he => .inr (hn e he))

theorem c_sinkRaw (HX : Mem) (s : Nat) (l ys : List UInt8) (st : SnkS) (xv : Value) (w : World) (hok : SnkOk l st) (hl : l.length ≤ 1099511627776) (hy1 : ys.length ≤ 1099511627776) (hb : BytesIn HX xv ys) (hw : Hp (snkM 114 5 s l st ++ HX) w) : Calls Tryz.prog 60 #[(.pointer (some ⟨s, 0, none⟩)), xv] w (Ret w (keys (snkM 114 5 s l st)) fun v H1 => ∃ st', v = (.pointer (some ⟨s, 0, none⟩)) ∧ H1 = snkM 114 5 s (l ++ ys) st' ∧ SnkOk (l ++ ys) st' ∧ (st.isSome → st'.isSome) ∧ (ys ≠ [] → st'.isSome)) := by
  have hb0 := hb
  obtain ⟨a, c, rfl, hb⟩ := hb
  refine fn_enter (args := [_, _]) Tryz.func60 rfl Tryz.ntmps60 rfl hw ?_
  refine pn_seq ?_
  refine pn_plain [] rfl ?_
  refine TE_q rfl rfl (RD.assign rfl) rfl ?_
  refine TE_nil0 ?_
  refine pn_seq ?_
  refine pn_seq ?_
  refine pn_plain [] rfl ?_
  refine TE_q rfl rfl (RD.move rfl) rfl ?_
  refine TE_q rfl rfl (RD.ptr_neq_nil Tryz.runUnderlying115 rfl rfl) rfl ?_
  refine TE_nil0 ?_
  refine pn_condT rfl ?_
  refine pn_plain [] rfl ?_
  refine TE_q rfl rfl (RD.move rfl) rfl ?_
  refine TE_q rfl rfl (RD.move rfl) rfl ?_
  refine TE_q rfl rfl (RD.nilCheckP rfl) rfl ?_
  refine TE_q rfl rfl (RD.fieldAddr (o := 0) Tryz.runUnderlying114 rfl rfl Tryz.sizeOf32 rfl) rfl ?_
  by_cases hy : ys = []
  · subst hy
    rcases st with _ | ⟨b, cap, tl⟩
    · obtain rfl : l = [] := hok
      refine TE_l rfl rfl trivial rfl (RD.load (i := 0) Tryz.isAgg32 rfl rfl rfl) rfl ?_
      refine TE_q rfl rfl (RD.move rfl) rfl ?_
      refine TE_l rfl rfl trivial rfl (RD.append0 Tryz.underlying32 elByte rfl rfl (Nat.zero_le _)) rfl ?_
      refine TE_q rfl rfl (RD.nilCheckP rfl) rfl ?_
      refine TE_q rfl rfl (RD.fieldAddr (o := 0) Tryz.runUnderlying114 rfl rfl Tryz.sizeOf32 rfl) rfl ?_
      refine TE_store (i := 0) rfl Tryz.sizeOf32 trivial rfl rfl rfl rfl rfl rfl (.inr (by simp [snkM])) ?_
      refine TE_nil0 ?_
      refine pn_seq ?_
      refine pn_plain [] rfl ?_
      refine TE_q rfl rfl (RD.move rfl) rfl ?_
      refine TE_q rfl rfl (RD.assign rfl) rfl ?_
      refine TE_nil0 ?_
      refine pn_ret ?_
      exact pn_done rfl rfl ⟨none, rfl, rfl, rfl, by simp, by simp⟩ (List.sublist_append_left [_] _) (snk_all0 (fun k => k ∈ keys (snkM 114 5 s [] none) ∨ w.heap.size ≤ k) (snk_s (fun k => k ∈ keys (snkM 114 5 s [] none) ∨ w.heap.size ≤ k) in_keys))
    · refine TE_l rfl rfl trivial rfl (RD.load (i := 0) Tryz.isAgg32 rfl rfl rfl) rfl ?_
      refine TE_q rfl rfl (RD.move rfl) rfl ?_
      refine TE_l rfl rfl trivial rfl (RD.append0 Tryz.underlying32 elByte rfl rfl hok.1) rfl ?_
      refine TE_q rfl rfl (RD.nilCheckP rfl) rfl ?_
      refine TE_q rfl rfl (RD.fieldAddr (o := 0) Tryz.runUnderlying114 rfl rfl Tryz.sizeOf32 rfl) rfl ?_
      refine TE_store (i := 0) rfl Tryz.sizeOf32 trivial rfl rfl rfl rfl rfl rfl (.inr (by simp [snkM])) ?_
      refine TE_nil0 ?_
      refine pn_seq ?_
      refine pn_plain [] rfl ?_
      refine TE_q rfl rfl (RD.move rfl) rfl ?_
      refine TE_q rfl rfl (RD.assign rfl) rfl ?_
      refine TE_nil0 ?_
      refine pn_ret ?_
      exact pn_done rfl rfl ⟨some (b, cap, tl), rfl, by rw [List.append_nil]; rfl, by rw [List.append_nil]; exact hok, by simp, by simp⟩ (List.sublist_append_left [_, _] _) (snk_all (fun k => k ∈ keys (snkM 114 5 s l (some (b, cap, tl))) ∨ w.heap.size ≤ k) (snk_s (fun k => k ∈ keys (snkM 114 5 s l (some (b, cap, tl))) ∨ w.heap.size ≤ k) in_keys) (snk_b (fun k => k ∈ keys (snkM 114 5 s l (some (b, cap, tl))) ∨ w.heap.size ≤ k) in_keys))
  · rcases st with _ | ⟨b, cap, tl⟩
    · obtain rfl : l = [] := hok
      refine TE_l rfl rfl trivial rfl (RD.load (i := 0) Tryz.isAgg32 rfl rfl rfl) rfl ?_
      refine TE_q rfl rfl (RD.move rfl) rfl ?_
      refine TE_appendN (ys := bcells ys) rfl rfl trivial rfl Tryz.underlying32 elByte rfl rfl rfl rfl (hb0.src hy (fun w hw => hw.left.right)) (by simp) (bcells_one _) (List.length_pos_iff.2 hy) (maxLen_ge (by omega)) (by omega) ?_
      intro b' cap' tl' h1 h2 h3 h4
      refine TE_q rfl rfl (RD.nilCheckP rfl) rfl ?_
      refine TE_q rfl rfl (RD.fieldAddr (o := 0) Tryz.runUnderlying114 rfl rfl Tryz.sizeOf32 rfl) rfl ?_
      refine TE_store (i := 1) rfl Tryz.sizeOf32 trivial rfl rfl rfl rfl rfl rfl (.inr (by simp [snkM])) ?_
      refine TE_nil0 ?_
      refine pn_seq ?_
      refine pn_plain [] rfl ?_
      refine TE_q rfl rfl (RD.move rfl) rfl ?_
      refine TE_q rfl rfl (RD.assign rfl) rfl ?_
      refine TE_nil0 ?_
      refine pn_ret ?_
      refine pn_pickT [1, 0] [_, _] _ rfl rfl rfl ?_
      exact pn_done rfl rfl ⟨some (b', cap', tl'), rfl, rfl, SnkOk_app (l := []) (by simpa using h1) h2 h3, by simp, by simp⟩ (List.sublist_append_left [_, _] _) (snk_all (fun k => k ∈ keys (snkM 114 5 s [] none) ∨ w.heap.size ≤ k) (snk_s (fun k => k ∈ keys (snkM 114 5 s [] none) ∨ w.heap.size ≤ k) in_keys) (.inr h4))
    · refine TE_l rfl rfl trivial rfl (RD.load (i := 0) Tryz.isAgg32 rfl rfl rfl) rfl ?_
      refine TE_q rfl rfl (RD.move rfl) rfl ?_
      refine TE_appendS (i := 1) (n := l.length) (xs := bcells l) (tl := tl) (ys := bcells ys) rfl rfl trivial rfl Tryz.underlying32 elByte rfl rfl rfl rfl rfl (by simp) hok.2.2 hok.1 hok.2.1 (hb0.src hy (fun w hw => hw.left.right)) (by simp) (bcells_one _) (List.length_pos_iff.2 hy) (maxLen_ge (by omega)) (by omega) (.inr (by simp [snkM])) ?_
      intro b' cap' tl' h1 h2 h3 h4
      refine TE_q rfl rfl (RD.nilCheckP rfl) rfl ?_
      refine TE_q rfl rfl (RD.fieldAddr (o := 0) Tryz.runUnderlying114 rfl rfl Tryz.sizeOf32 rfl) rfl ?_
      refine TE_store (i := 0) rfl Tryz.sizeOf32 trivial rfl rfl rfl rfl rfl rfl (.inr (by simp [snkM])) ?_
      refine TE_nil0 ?_
      refine pn_seq ?_
      refine pn_plain [] rfl ?_
      refine TE_q rfl rfl (RD.move rfl) rfl ?_
      refine TE_q rfl rfl (RD.assign rfl) rfl ?_
      refine TE_nil0 ?_
      refine pn_ret ?_
      exact pn_done rfl rfl ⟨some (b', cap', tl'), rfl, rfl, SnkOk_app h1 h2 h3, by simp, by simp⟩ (by rw [snk_app]; exact List.sublist_append_left [_, _] _) (snk_all (fun k => k ∈ keys (snkM 114 5 s l (some (b, cap, tl))) ∨ w.heap.size ≤ k) (snk_s (fun k => k ∈ keys (snkM 114 5 s l (some (b, cap, tl))) ∨ w.heap.size ≤ k) in_keys) (h4.elim (fun h => h ▸ snk_b (fun k => k ∈ keys (snkM 114 5 s l (some (b, cap, tl))) ∨ w.heap.size ≤ k) in_keys) .inr))

end Go.Proofs.YtloljpefdecmhaaGreatDoor

namespace Go.Proofs.YtloljpefdecmhaaGreatDoor
open Go Go.Mv
set_option maxRecDepth 4000
theorem c_sinkBytes (HX : Mem) (s : Nat) (l ys : List UInt8) (st : SnkS) (xv : Value) (w : World) (hok : SnkOk l st) (hl : l.length ≤ 549755813888) (hy1 : ys.length ≤ 549755813888) (hb : BytesIn HX xv ys) (hw : Hp (HX ++ snkM 114 5 s l st) w) : Calls Tryz.prog 183 #[(.pointer (some ⟨s, 0, none⟩)), xv] w (Ret w (keys (snkM 114 5 s l st)) fun v H1 => ∃ st', v = (.pointer (some ⟨s, 0, none⟩)) ∧ H1 = snkM 114 5 s (l ++ lebL ys.length ++ ys) (some st') ∧ SnkOk (l ++ lebL ys.length ++ ys) (some st')) := by
  have hb0 := hb
  obtain ⟨a, c, rfl, hb⟩ := hb
  have h10 := lebL_len64 (n := ys.length) (by omega)
  refine fn_enter (args := [_, _]) Tryz.func183 rfl Tryz.ntmps183 rfl hw ?_
  refine pn_seq ?_
  refine pn_plain [] rfl ?_
  refine TE_q rfl rfl (RD.assign rfl) rfl ?_
  refine TE_nil0 ?_
  refine pn_seq ?_
  refine pn_plain [2, 3] rfl ?_
  refine TE_q rfl rfl (RD.move rfl) rfl ?_
  refine TE_q rfl rfl (RD.move rfl) rfl ?_
  refine TE_q rfl rfl (RD.len_slice Tryz.runUnderlying32 rfl) rfl ?_
  refine TE_q rfl rfl (RD.as (RD.conv Tryz.runUnderlying3 Tryz.runUnderlying133 rfl) (u64_len (by omega))) rfl ?_
  refine TE_callT HX _ rfl rfl rfl trivial Tryz.call184 rfl rfl rfl (snk_in rfl) (fun w hs => c_sinkNumber s ys.length l st w (by omega) hok (by omega) hs.hp.mid) ?_
  rintro v9 H4 ⟨⟨b', cap', tl'⟩, rfl, rfl, hok1⟩ hX1
  refine TE_q rfl rfl (RD.move rfl) rfl ?_
  refine TE_callT HX _ rfl rfl rfl trivial Tryz.call60 rfl rfl rfl hX1 (fun w hs => c_sinkRaw HX s _ ys _ _ w hok1 (by simp <;> omega) (by omega) hb0 (hs.hp.left.perm List.perm_append_comm)) ?_
  rintro v11 H6 ⟨st2, rfl, rfl, hok2, hs2, -⟩ hX2
  refine TE_q rfl rfl (RD.assign rfl) rfl ?_
  refine TE_nil0 ?_
  refine pn_ret ?_
  obtain ⟨st3, rfl⟩ := Option.isSome_iff_exists.1 (hs2 rfl); exact pn_done rfl rfl ⟨st3, rfl, rfl, hok2⟩ (List.sublist_append_right _ _) (where_ hX2)

end Go.Proofs.YtloljpefdecmhaaGreatDoor

namespace Go.Proofs.YtloljpefdecmhaaGreatDoor
open Go Go.Mv
set_option maxRecDepth 4000
def byteBad (b : UInt8) : Bool := decide (b.toNat < 33) || decide (126 < b.toNat) || decide (0 ≤ Lib.indexByte [126, 94, 58, 63, 42, 91, 92] b)
def byByteB (s : ByteArray) : Bool := s.data.toList.any byteBad
end Go.Proofs.YtloljpefdecmhaaGreatDoor

namespace Go.Proofs.YtloljpefdecmhaaGreatDoor
open Go Go.Mv
set_option maxRecDepth 4000
def pLong (s : ByteArray) : Bool := decide (s = ⟨#[]⟩) || decide (100 < (s.size : Int))
def pEmpty (s : ByteArray) : Bool := decide (s = ⟨#[]⟩)
def pDot (s : ByteArray) : Bool := Lib.hasPrefix s.data.toList [46]
def pLock (s : ByteArray) : Bool := Lib.hasSuffix s.data.toList [46, 108, 111, 99, 107]
def pEnd (s : ByteArray) : Bool := Lib.hasSuffix s.data.toList [46]
def pHas (u : ByteArray) (s : ByteArray) : Bool := Lib.contains s.data.toList u.data.toList
def pPart (f : ByteArray → Bool) (s : ByteArray) : Bool := (partsOf s).any f
end Go.Proofs.YtloljpefdecmhaaGreatDoor

namespace Go.Proofs.YtloljpefdecmhaaGreatDoor
open Go Go.Mv
set_option maxRecDepth 4000
def brk (n : Int) (s : ByteArray) : Bool := bif decide (n = 1) then pLong s else bif decide (n = 2) then byByteB s else bif decide (n = 3) then pPart pEmpty s else bif decide (n = 4) then pPart pDot s else bif decide (n = 5) then pHas ⟨#[46, 46]⟩ s else bif decide (n = 6) then pPart pLock s else bif decide (n = 7) then pEnd s else pHas ⟨#[64, 123]⟩ s
/-- P4.1: the first rule that a name breaks. -/
def breaksN (s : ByteArray) : Int := (([1, 2, 3, 4, 5, 6, 7, 8] : List Int).find? fun n => brk n s).getD 0
end Go.Proofs.YtloljpefdecmhaaGreatDoor

namespace Go.Proofs.YtloljpefdecmhaaGreatDoor
open Go Go.Mv
set_option maxRecDepth 8000
theorem info_u8 : Tryz.prog.info? 5 = some Tryz.t5 := by kernel_rfl
theorem cells_u8 : Tryz.prog.cellsOf 5 = 1 := by kernel_rfl
theorem eq_id (f g : Nat → Int) (w : World) : (Op.equalIn 10000 36 (.agg (idV f).cells) (.agg (idV g).cells)).run Tryz.prog w = .ok (sameN 32 f g) w :=
  eqIn_ints (d := 9998) (k := .u8) Tryz.underlying36 info_u8 Tryz.underlying5 Tryz.isAgg5 cells_u8 (fun _ hi => ⟨id_at f hi, id_at g hi⟩) w
def tip0 (r : Rec) : Bool := sameN 32 r.tip fun _ => 0
/-- P12.1: a record that may be. -/
def recOkB (r : Rec) : Bool := dotOk r.s r.c && decide (r.ctx r.s.toNat = r.c - 1) && decide (breaksN r.ref = 0) && (r.has || tip0 r)
end Go.Proofs.YtloljpefdecmhaaGreatDoor

namespace Go.Proofs.YtloljpefdecmhaaGreatDoor
open Go Go.Mv
set_option maxRecDepth 8000
/-- Two records whose cells are the same. -/
structure SameR (a b : Rec) : Prop where
  s : a.s = b.s
  c : a.c = b.c
  ctx : ∀ i, i < 16 → a.ctx i = b.ctx i
  ref : a.ref = b.ref
  has : a.has = b.has
  tip : ∀ i, i < 32 → a.tip i = b.tip i
theorem sameN_congr {a b c : Nat → Int} (n : Nat) (h : ∀ i, i < n → a i = b i) : sameN n a c = sameN n b c := by
  apply Bool.eq_iff_iff.2
  rw [sameN_iff, sameN_iff]
  exact ⟨fun k i hi => (h i hi).symm.trans (k i hi), fun k i hi => (h i hi).trans (k i hi)⟩
theorem SameR.ok {a b : Rec} (h : SameR a b) : recOkB a = recOkB b := by
  simp only [recOkB]
  rw [show tip0 a = tip0 b from sameN_congr 32 h.tip, h.s, h.c, h.ref, h.has]
  cases hd : dotOk b.s b.c with
  | false => rfl
  | true =>
    have := dotOk_iff.1 hd
    rw [h.ctx b.s.toNat (by omega)]
theorem eqIn_string {P : Program} {T : TypeId} {w : World} {d : Nat} {a b : ByteArray} (hT : P.underlying T = some .string) : (Op.equalIn (d + 1) T (.string a) (.string b)).run P w = .ok (decide (a = b)) w := by
  rw [run_equalIn_string w d T a b hT, string_beq]
end Go.Proofs.YtloljpefdecmhaaGreatDoor

namespace Go.Proofs.YtloljpefdecmhaaGreatDoor
open Go Go.Mv
set_option maxRecDepth 8000
def rawD (n : Nat) (ys : List UInt8) : Dr (List UInt8) := if ys.length < n then .err 10 else .ok (ys.take n) (ys.drop n)
def bytesD (most : Nat) (ys : List UInt8) : Dr (List UInt8) :=
  match numD most ys with
  | .err e => .err e
  | .ok n r => rawD n r
def tipOf (l : List UInt8) : Nat → Int := fun i => ((l.getD i 0).toNat : Int)
theorem rawD_back (b r : List UInt8) : rawD b.length (b ++ r) = .ok b r := by
  simp only [rawD]; rw [if_neg (by simp), List.take_left' rfl, List.drop_left' rfl]
theorem bytesD_back {most : Nat} {b : List UInt8} (r : List UInt8) (h : b.length ≤ most) (h2 : b.length < 18446744073709551616) : bytesD most (lebL b.length ++ b ++ r) = .ok b r := by
  have h1 := numD_leb (n := b.length) (most := most) (b ++ r) h2 h
  rw [List.append_assoc]
  simp only [bytesD, h1, rawD_back]
theorem tipOf_tipL {t : Nat → Int} (ht : IdOk t) {i : Nat} (hi : i < 32) : tipOf (tipL t) i = t i := by
  have := ht i
  simp only [tipOf, tipL, List.getD_eq_getElem?_getD, List.getElem?_map, List.getElem?_range hi, Option.map_some, Option.getD_some]
  rw [UInt8.toNat_ofNat_of_lt' (show (t i).toNat < 256 by omega)]; omega

end Go.Proofs.YtloljpefdecmhaaGreatDoor

namespace Go.Proofs.YtloljpefdecmhaaGreatDoor
open Go Go.Mv
set_option maxRecDepth 8000
def srcM (s : Nat) (v : Value) (HX : Mem) : Mem := (s, .cells #[v] 180 (0, 0)) :: HX
theorem in_src {s n : Nat} {v v' : Value} {HX : Mem} : ∀ e ∈ srcM s v HX, e.1 ∈ keys (srcM s v' HX) ∨ n ≤ e.1 := fun e he => .inl (show e.1 ∈ keys (srcM s v HX) from mem_keys.2 ⟨e, he, rfl⟩)
theorem build_src (a : Option Addr) (n c : Nat) (w : World) : (Instr.build 180 #[(0, .slice a n c)]).run Tryz.prog w = .ok (.agg #[.slice a n c]) w := by
  simp [Instr.build, Tryz.zeroValue180, Tryz.runUnderlying180, Tryz.sizeOf32, Value.cells, Instr.fill]

theorem c_from (HX : Mem) (xv : Value) (ys : List UInt8) (w : World) (hb : BytesIn HX xv ys) (hlen : ys.length ≤ 2199023255552) (hH : Hp HX w) : Calls Tryz.prog 64 #[xv] w (Ret w [] fun v H1 => ∃ s sv H2, v = .pointer (some ⟨s, 0, none⟩) ∧ H1 = srcM s sv H2 ∧ Rdb H2 sv ys) := by
  refine fn_enter (args := [_]) Tryz.func64 rfl Tryz.ntmps64 rfl hH ?_
  refine pn_seq ?_
  refine pn_plain [] rfl ?_
  refine TE_q rfl rfl (RD.assign rfl) rfl ?_
  refine TE_nil0 ?_
  refine pn_seq ?_
  refine pn_plain [] rfl ?_
  refine TE_q rfl rfl (RD.move rfl) rfl ?_
  refine TE_call rfl rfl trivial Tryz.call107 rfl rfl rfl (fun w hs' => c_clone HX xv ys w hs'.hp.left hb hlen) ?_
  rintro v4 H1 hr hX
  obtain ⟨a, c, rfl⟩ := hr.rdb.shape
  refine TE_q rfl rfl (RD.build rfl (build_src _ _ _)) rfl ?_
  refine TE_box rfl rfl trivial rfl fun b6 hb6 => ?_
  refine TE_q rfl rfl (RD.assign rfl) rfl ?_
  refine TE_nil0 ?_
  refine pn_ret ?_
  exact pn_done rfl rfl ⟨b6, _, H1, rfl, rfl, hr.rdb⟩ (List.Sublist.cons_cons _ (List.sublist_append_left _ _)) (allC (Q := fun k => k ∈ _ ∨ _ ≤ k) (.inr hb6) (fun e he => .inr (hX e he)))

theorem c_back (s e : Nat) (a : Option Addr) (n c : Nat) (w : World) (hH : Hp [(s, .cells #[.slice a n c] 180 (0, 0))] w) : Calls Tryz.prog 111 #[.pointer (some ⟨s, 0, none⟩), .pointer (some ⟨e, 0, none⟩)] w (Ret w [] fun v H1 => ∃ x2 x3 x5, v = .func (.func 136) #[] #[.pointer (some ⟨x3, 0, none⟩), .pointer (some ⟨x5, 0, none⟩), .pointer (some ⟨x2, 0, none⟩)] ∧ H1 = [(x5, .cells #[.slice a n c] 32 (0, 0)), (x3, .cells #[.pointer (some ⟨e, 0, none⟩)] 182 (0, 0)), (x2, .cells #[.pointer (some ⟨s, 0, none⟩)] 125 (0, 0))]) := by
  refine fn_enter (args := [_, _]) Tryz.func111 rfl Tryz.ntmps111 rfl hH ?_
  refine pn_seq ?_
  refine pn_plain [] rfl ?_
  refine TE_box rfl rfl trivial rfl fun b2 hb2 => ?_
  refine TE_box rfl rfl trivial rfl fun b3 hb3 => ?_
  refine TE_q rfl rfl (RD.assign rfl) rfl ?_
  refine TE_nil0 ?_
  refine pn_seq ?_
  refine pn_plain [] rfl ?_
  refine TE_l rfl rfl trivial rfl (RD.load (i := 1) Tryz.isAgg125 rfl rfl rfl) rfl ?_
  refine TE_q rfl rfl (RD.nilCheckP rfl) rfl ?_
  refine TE_q rfl rfl (RD.fieldAddr (o := 0) Tryz.runUnderlying180 rfl rfl Tryz.sizeOf32 rfl) rfl ?_
  refine TE_l rfl rfl trivial rfl (RD.load (i := 2) Tryz.isAgg32 rfl rfl rfl) rfl ?_
  refine TE_alloc rfl Tryz.zeroValue32 trivial rfl fun b5 hb5 => ?_
  refine TE_store (i := 0) rfl Tryz.sizeOf32 trivial rfl rfl rfl rfl rfl rfl (.inl (by assumption)) ?_
  refine TE_nil0 ?_
  refine pn_seq ?_
  refine pn_plain [] rfl ?_
  refine TE_q rfl rfl (RD.makeFunc rfl rfl) rfl ?_
  refine TE_q rfl rfl (RD.assign rfl) rfl ?_
  refine TE_nil0 ?_
  refine pn_ret ?_
  exact pn_done rfl rfl ⟨b2, b3, b5, rfl, rfl⟩ (List.Sublist.cons_cons _ (List.Sublist.cons_cons _ (List.Sublist.cons_cons _ (List.nil_sublist _)))) (by simp; exact ⟨hb5, hb3, hb2⟩)

theorem c_back1 (s e x2 x3 x5 : Nat) (a a' : Option Addr) (n c n' c' : Nat) (ev : Int) (w : World) (hw : Hp ([(x5, .cells #[.slice a n c] 32 (0, 0)), (x3, .cells #[.pointer (some ⟨e, 0, none⟩)] 182 (0, 0)), (x2, .cells #[.pointer (some ⟨s, 0, none⟩)] 125 (0, 0)), (e, .cells #[.int .i64 ev] 25 (0, 0))] ++ [(s, .cells #[.slice a' n' c'] 180 (0, 0))]) w) : CallsDf Tryz.prog 136 #[.pointer (some ⟨x3, 0, none⟩), .pointer (some ⟨x5, 0, none⟩), .pointer (some ⟨x2, 0, none⟩)] w (Ret w [s] fun _ H1 => H1 = [(s, .cells #[if ev = 0 then .slice a' n' c' else .slice a n c] 180 (0, 0))]) := by
  refine fn_enterD (args := [_, _, _]) Tryz.func136 rfl Tryz.ntmps136 rfl hw ?_
  refine pn_seq ?_
  refine pn_plain [] rfl ?_
  refine TE_l rfl rfl trivial rfl (RD.load (i := 1) Tryz.isAgg182 rfl rfl rfl) rfl ?_
  refine TE_q rfl rfl (RD.nilCheckP rfl) rfl ?_
  refine TE_l rfl rfl trivial rfl (RD.load (i := 3) Tryz.isAgg25 rfl rfl rfl) rfl ?_
  refine TE_q rfl rfl (RD.neq rfl rfl) rfl ?_
  refine TE_nil0 ?_
  first | refine pn_condD rfl (fun hc0 => ?_) (fun hc0 => ?_) | refine pn_condN rfl (fun hc0 => ?_) (fun hc0 => ?_) | refine pn_cond rfl (fun hc0 => ?_) (fun hc0 => ?_)
  · refine pn_plain [] rfl ?_
    refine TE_l rfl rfl trivial rfl (RD.load (i := 2) Tryz.isAgg125 rfl rfl rfl) rfl ?_
    refine TE_l rfl rfl trivial rfl (RD.load (i := 0) Tryz.isAgg32 rfl rfl rfl) rfl ?_
    refine TE_q rfl rfl (RD.nilCheckP rfl) rfl ?_
    refine TE_q rfl rfl (RD.fieldAddr (o := 0) Tryz.runUnderlying180 rfl rfl Tryz.sizeOf32 rfl) rfl ?_
    refine TE_store (i := 4) rfl Tryz.sizeOf32 trivial rfl rfl rfl rfl rfl rfl (.inr (by simp)) ?_
    refine TE_nil0 ?_
    (rw [if_neg hc0]; exact pn_doneD rfl rfl rfl (fun w h => h.sub (.cons _ (.cons _ (.cons _ (.cons _ (List.Sublist.refl _)))))) (by simp))
  · refine pn_skip ?_
    (rw [if_pos hc0]; exact pn_doneD rfl rfl rfl (fun w h => h.sub (.cons _ (.cons _ (.cons _ (.cons _ (List.Sublist.refl _)))))) (by simp))

theorem c_next (s : Nat) (w : World) : Calls Tryz.prog 137 #[.pointer (some ⟨s, 0, none⟩)] w (Ret w [] fun v H1 => ∃ x1, v = .func (.func 155) #[] #[.pointer (some ⟨x1, 0, none⟩)] ∧ H1 = [(x1, .cells #[.pointer (some ⟨s, 0, none⟩)] 125 (0, 0))]) := by
  refine fn_enter (args := [_]) Tryz.func137 rfl Tryz.ntmps137 rfl (Hp.nil w) ?_
  refine pn_seq ?_
  refine pn_plain [] rfl ?_
  refine TE_box rfl rfl trivial rfl fun b1 hb1 => ?_
  refine TE_q rfl rfl (RD.assign rfl) rfl ?_
  refine TE_nil0 ?_
  refine pn_seq ?_
  refine pn_plain [] rfl ?_
  refine TE_q rfl rfl (RD.makeFunc rfl rfl) rfl ?_
  refine TE_q rfl rfl (RD.assign rfl) rfl ?_
  refine TE_nil0 ?_
  refine pn_ret ?_
  exact pn_done rfl rfl ⟨b1, rfl, rfl⟩ (List.Sublist.refl _) (by simp; exact hb1)

end Go.Proofs.YtloljpefdecmhaaGreatDoor
