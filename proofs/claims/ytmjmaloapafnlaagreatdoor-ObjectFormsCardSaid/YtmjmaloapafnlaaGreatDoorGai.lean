import Derived.Test.YtmjmaloapafnlaaGreatDoorGah
import Derived.Test.YtmjmaloapafnlaaGreatDoorProg
import Derived.Test.YtmjmaloapafnlaaGreatDoorShq
namespace Go.Proofs.YtmjmaloapafnlaaGreatDoor
open Tryz
open Go Go.Mv
set_option maxRecDepth 4000
theorem elByte : ElI Tryz.prog 5 1 1 (.int .u8 0) := by unfold ElI; kernel_rfl

theorem c_sinkNumber (s n : Nat) (l : List UInt8) (st : SnkS) (w : World) (hn : n < 18446744073709551616) (hok : SnkOk l st) (hl : l.length ≤ 1099511627776) (hw : Hp (snkM 137 5 s l st) w) : Calls Tryz.prog 229 #[(.pointer (some ⟨s, 0, none⟩)), .int .u64 (n : Int)] w (Ret w (keys (snkM 137 5 s l st)) fun v H1 => ∃ st', v = (.pointer (some ⟨s, 0, none⟩)) ∧ H1 = snkM 137 5 s (l ++ lebL n) (some st') ∧ SnkOk (l ++ lebL n) (some st')) := by
 refine fn_enter (args := [_, _]) func229 rfl ntmps229 rfl hw (sq (pl (TE_box rfl rfl trivial rfl fun b2 hb2 => (qa rfl (n0 (sq (sq (pl (ql rfl (RD.load (i := 0) isAgg138 rfl rfl rfl) ?_)))))))))
 refine qq rfl (RD.ptr_neq_nil runUnderlying138 rfl rfl) (n0 (pn_condT rfl (sq (pl (qm rfl (TE_call rfl rfl trivial call230 rfl rfl rfl (fun w hs' => c_lebParts _ w) ?_))))))
 rintro v9 H1 ⟨bp, rfl, rfl⟩ hbp
 refine n0 (pn_block (pn_rangeH (τ := Unit) (HI := [(bp, .cells #[.int .u64 (n : Int)] 120 (0, 0))]) (HR := [(b2, .cells #[(.pointer (some ⟨s, 0, none⟩))] 138 (0, 0))]) (it_lebParts n bp hn) (fun (x : List UInt8 × SnkS) => snkM 137 5 s x.1 x.2) (fun pre x => x.1 = l ++ pre ∧ SnkOk x.1 x.2 ∧ (pre ≠ [] → x.2.isSome) ∧ ∀ e ∈ snkM 137 5 s x.1 x.2, e.1 ∈ keys (snkM 137 5 s l st) ∨ w.heap.size ≤ e.1) (fun _ _ _ => False) (l, st) ⟨by simp, hok, by simp, fun e he => .inl (mem_keys.2 ⟨e, he, rfl⟩)⟩ rfl call231 (by intro x; rfl) rfl (fun w h => h.perm (List.Perm.cons _ (List.perm_append_comm (l₁ := [_])))) (fun e he => (List.mem_cons.1 he).elim (fun h => .inl (hbp e (by simp [h]))) (fun h => .inr (mem_keys.2 ⟨e, h, rfl⟩))) (fun x _ => [(5, bcell x), (2, .pointer (some ⟨b2, 0, none⟩))]) (fun _ _ => []) (fun _ _ => True) ?_ ?_ ?_ ?_))
 ·intro W l1 pre x y R hW hG hpre
  refine pl (qa rfl (n0 ?_))
  (exact fun a w hr hs => ⟨(), trivial, hr.keeps ⟨rfl, rfl, trivial⟩, hs⟩)
 ·rintro W l1 pre x ⟨l', st'⟩ t R hW ⟨hl', hok', hsm, hwh⟩ hpre -
  dsimp only at hl' hok' hsm hwh
  have h10 := lebL_len64 hn
  have hlp := length_of_prefix hpre
  have hll : l'.length ≤ l.length + 10 := by rw [hl', List.length_append]; omega
  refine pn_block ?_
  rcases st' with _ | ⟨b, cap, tl⟩
  ·obtain rfl : l' = [] := hok'
   refine pn_drawM [0, 1] [0] [1] (seqT [0, 1, 2, 3, 5] (.fork (seqT [4, 6, 7, 8, 9, 10] .nil) (seqT [6, 4, 7, 8, 9, 10] .nil))) [_, _] R rfl rfl (by kernel_rfl) (by kernel_rfl) rfl rfl (qq rfl (RD.load (i := 0) isAgg138 rfl rfl rfl) (qq rfl (RD.load (i := 0) isAgg138 rfl rfl rfl) (qn rfl (qq rfl (RD.fieldAddr (o := 0) runUnderlying137 rfl rfl sizeOf32 rfl) (qm rfl (TE_fork ?_ ?_))))))
   ·refine ql rfl (RD.load (i := 0) isAgg32 rfl rfl rfl) (TE_buildSlice (cells := #[bcell x]) rfl runUnderlying32 sizeOf5 zeroValue5 rfl rfl rfl (by kernel_rfl) trivial rfl fun bv hbv => (TE_appendN (ys := [bcell x]) rfl rfl trivial rfl underlying32 elByte rfl rfl rfl rfl (Src.blk (i := 0) (ys := [bcell x]) (tl := []) rfl) rfl (by simp [bcell, Value.oneCell']) (by decide) (by decide) (by decide) ?_))
    intro b' cap' tl' h1 h2 h3 h4
    refine qn rfl (qq rfl (RD.fieldAddr (o := 0) runUnderlying137 rfl rfl sizeOf32 rfl) (TE_store (i := 2) rfl sizeOf32 trivial rfl rfl rfl rfl rfl rfl (.inr (by simp [snkM])) (TE_nil (pn_endR (σ := List UInt8 × SnkS) (HJ := fun x => snkM 137 5 s x.1 x.2) (s := ([], none)) (l := l1) (R := R) ([] ++ [x], some (b', cap', tl')) rfl ⟨by show _ = l ++ (pre ++ [x]); rw [← List.append_assoc, ← hl'], SnkOk_app (l := []) h1 h2 h3, by simp, snk_all (fun k => k ∈ keys (snkM 137 5 s l st) ∨ w.heap.size ≤ k) (snk_s (fun k => k ∈ keys (snkM 137 5 s l st) ∨ w.heap.size ≤ k) hwh) (.inr (Nat.le_trans hW.size h4))⟩ (fun w h => ?_) (snk_all (fun k => k ∈ keys (snkM 137 5 s [] none) ∨ W.heap.size ≤ k) (snk_s (fun k => k ∈ keys (snkM 137 5 s [] none) ∨ W.heap.size ≤ k) in_keys) (.inr h4))))))
    exact (h.sub (H' := _ :: _ :: R) (List.Sublist.cons_cons _ (List.Sublist.cons _ (List.Sublist.cons_cons _ (List.sublist_cons_self _ _))))).perm (.swap _ _ _)
   ·refine TE_buildSlice (cells := #[bcell x]) rfl runUnderlying32 sizeOf5 zeroValue5 rfl rfl rfl (by kernel_rfl) trivial rfl fun bv hbv => (ql rfl (RD.load (i := 1) isAgg32 rfl rfl rfl) (TE_appendN (ys := [bcell x]) rfl rfl trivial rfl underlying32 elByte rfl rfl rfl rfl (Src.blk (i := 0) (ys := [bcell x]) (tl := []) rfl) rfl (by simp [bcell, Value.oneCell']) (by decide) (by decide) (by decide) ?_))
    intro b' cap' tl' h1 h2 h3 h4
    refine qn rfl (qq rfl (RD.fieldAddr (o := 0) runUnderlying137 rfl rfl sizeOf32 rfl) (TE_store (i := 2) rfl sizeOf32 trivial rfl rfl rfl rfl rfl rfl (.inr (by simp [snkM])) (TE_nil (pn_endR (σ := List UInt8 × SnkS) (HJ := fun x => snkM 137 5 s x.1 x.2) (s := ([], none)) (l := l1) (R := R) ([] ++ [x], some (b', cap', tl')) rfl ⟨by show _ = l ++ (pre ++ [x]); rw [← List.append_assoc, ← hl'], SnkOk_app (l := []) h1 h2 h3, by simp, snk_all (fun k => k ∈ keys (snkM 137 5 s l st) ∨ w.heap.size ≤ k) (snk_s (fun k => k ∈ keys (snkM 137 5 s l st) ∨ w.heap.size ≤ k) hwh) (.inr (Nat.le_trans hW.size h4))⟩ (fun w h => ?_) (snk_all (fun k => k ∈ keys (snkM 137 5 s [] none) ∨ W.heap.size ≤ k) (snk_s (fun k => k ∈ keys (snkM 137 5 s [] none) ∨ W.heap.size ≤ k) in_keys) (.inr h4))))))
    exact (h.sub (H' := _ :: _ :: R) (List.Sublist.cons_cons _ (List.Sublist.cons _ (List.Sublist.cons_cons _ (List.sublist_cons_self _ _))))).perm (.swap _ _ _)
  ·refine pn_drawM [0, 1] [0, 1] [2] (seqT [0, 1, 2, 3, 5] (.fork (seqT [4, 6, 7, 8, 9, 10] .nil) (seqT [6, 4, 7, 8, 9, 10] .nil))) [_, _, _] R rfl rfl (by kernel_rfl) (by kernel_rfl) rfl rfl (qq rfl (RD.load (i := 0) isAgg138 rfl rfl rfl) (qq rfl (RD.load (i := 0) isAgg138 rfl rfl rfl) (qn rfl (qq rfl (RD.fieldAddr (o := 0) runUnderlying137 rfl rfl sizeOf32 rfl) (qm rfl (TE_fork ?_ ?_))))))
   ·refine ql rfl (RD.load (i := 0) isAgg32 rfl rfl rfl) (TE_buildSlice (cells := #[bcell x]) rfl runUnderlying32 sizeOf5 zeroValue5 rfl rfl rfl (by kernel_rfl) trivial rfl fun bv hbv => (TE_appendS (i := 2) (n := l'.length) (xs := bcells l') (tl := tl) (ys := [bcell x]) rfl rfl trivial rfl underlying32 elByte rfl rfl rfl rfl rfl (by simp) hok'.2.2 hok'.1 hok'.2.1 (Src.blk (i := 0) (ys := [bcell x]) (tl := []) rfl) rfl (by simp [bcell, Value.oneCell']) (by decide) (maxLen_ge (by omega)) (by omega) (.inr (by simp [snkM])) ?_))
    intro b' cap' tl' h1 h2 h3 h4
    refine qn rfl (qq rfl (RD.fieldAddr (o := 0) runUnderlying137 rfl rfl sizeOf32 rfl) (TE_store (i := 1) rfl sizeOf32 trivial rfl rfl rfl rfl rfl rfl (.inr (by simp [snkM])) (TE_nil (pn_endR (σ := List UInt8 × SnkS) (HJ := fun x => snkM 137 5 s x.1 x.2) (s := (l', some (b, cap, tl))) (l := l1) (R := R) (l' ++ [x], some (b', cap', tl')) rfl ⟨by show _ = l ++ (pre ++ [x]); rw [← List.append_assoc, ← hl'], SnkOk_app h1 h2 h3, by simp, snk_all (fun k => k ∈ keys (snkM 137 5 s l st) ∨ w.heap.size ≤ k) (snk_s (fun k => k ∈ keys (snkM 137 5 s l st) ∨ w.heap.size ≤ k) hwh) (h4.elim (fun h => h ▸ snk_b (fun k => k ∈ keys (snkM 137 5 s l st) ∨ w.heap.size ≤ k) hwh) (fun h => .inr (Nat.le_trans hW.size h)))⟩ (fun w h => ?_) (snk_all (fun k => k ∈ keys (snkM 137 5 s l' (some (b, cap, tl))) ∨ W.heap.size ≤ k) (snk_s (fun k => k ∈ keys (snkM 137 5 s l' (some (b, cap, tl))) ∨ W.heap.size ≤ k) in_keys) (h4.elim (fun h => h ▸ snk_b (fun k => k ∈ keys (snkM 137 5 s l' (some (b, cap, tl))) ∨ W.heap.size ≤ k) in_keys) .inr))))))
    show Hp (snkM 137 5 s (l' ++ [x]) (some (b', cap', tl')) ++ R) w; rw [snk_app]; exact h.sub (List.Sublist.cons _ (List.Sublist.cons_cons _ (List.Sublist.cons_cons _ (List.sublist_cons_self _ _))))
   ·refine TE_buildSlice (cells := #[bcell x]) rfl runUnderlying32 sizeOf5 zeroValue5 rfl rfl rfl (by kernel_rfl) trivial rfl fun bv hbv => (ql rfl (RD.load (i := 1) isAgg32 rfl rfl rfl) (TE_appendS (i := 2) (n := l'.length) (xs := bcells l') (tl := tl) (ys := [bcell x]) rfl rfl trivial rfl underlying32 elByte rfl rfl rfl rfl rfl (by simp) hok'.2.2 hok'.1 hok'.2.1 (Src.blk (i := 0) (ys := [bcell x]) (tl := []) rfl) rfl (by simp [bcell, Value.oneCell']) (by decide) (maxLen_ge (by omega)) (by omega) (.inr (by simp [snkM])) ?_))
    intro b' cap' tl' h1 h2 h3 h4
    refine qn rfl (qq rfl (RD.fieldAddr (o := 0) runUnderlying137 rfl rfl sizeOf32 rfl) (TE_store (i := 1) rfl sizeOf32 trivial rfl rfl rfl rfl rfl rfl (.inr (by simp [snkM])) (TE_nil (pn_endR (σ := List UInt8 × SnkS) (HJ := fun x => snkM 137 5 s x.1 x.2) (s := (l', some (b, cap, tl))) (l := l1) (R := R) (l' ++ [x], some (b', cap', tl')) rfl ⟨by show _ = l ++ (pre ++ [x]); rw [← List.append_assoc, ← hl'], SnkOk_app h1 h2 h3, by simp, snk_all (fun k => k ∈ keys (snkM 137 5 s l st) ∨ w.heap.size ≤ k) (snk_s (fun k => k ∈ keys (snkM 137 5 s l st) ∨ w.heap.size ≤ k) hwh) (h4.elim (fun h => h ▸ snk_b (fun k => k ∈ keys (snkM 137 5 s l st) ∨ w.heap.size ≤ k) hwh) (fun h => .inr (Nat.le_trans hW.size h)))⟩ (fun w h => ?_) (snk_all (fun k => k ∈ keys (snkM 137 5 s l' (some (b, cap, tl))) ∨ W.heap.size ≤ k) (snk_s (fun k => k ∈ keys (snkM 137 5 s l' (some (b, cap, tl))) ∨ W.heap.size ≤ k) in_keys) (h4.elim (fun h => h ▸ snk_b (fun k => k ∈ keys (snkM 137 5 s l' (some (b, cap, tl))) ∨ W.heap.size ≤ k) in_keys) .inr))))))
    show Hp (snkM 137 5 s (l' ++ [x]) (some (b', cap', tl')) ++ R) w; rw [snk_app]; exact h.sub (List.Sublist.cons _ (List.Sublist.cons_cons _ (List.Sublist.cons_cons _ (List.sublist_cons_self _ _))))
 ·rintro D HI' ⟨l', st'⟩ hD ⟨hl', hok', hsm, hwh⟩ rfl; dsimp only at hl' hok' hsm hwh; subst hl'; rcases st' with _ | ⟨b, cap, tl⟩; (have := hsm (by intro h; have := lebL_pos n; rw [h] at this; simp at this); simp at this)
  exact sq (pl (ql rfl (RD.load (i := 3) isAgg138 rfl rfl rfl) (qa rfl (n0 (rt (pn_doneC [_, _] [_] rfl rfl rfl ⟨_, rfl, rfl, hok'⟩ (List.sublist_append_left _ _) (fun e he => hwh e he) hD))))))
 ·rintro D HI' c pre y hD hpre hS hF; exact hS.elim
end Go.Proofs.YtmjmaloapafnlaaGreatDoor

namespace Go.Proofs.YtmjmaloapafnlaaGreatDoor
open Tryz
open Go Go.Mv
set_option maxRecDepth 4000
theorem c_clone (H : Mem) (xv : Value) (ys : List UInt8) (w : World) (hH : Hp H w) (hb : BytesIn H xv ys) (hlen : ys.length ≤ 2199023255552) : Calls Tryz.prog 132 #[xv] w (Ret w [] fun v H1 => RetB 5 v H1 ys) := by
 have hb0 := hb
 obtain ⟨a, c, rfl, hb⟩ := hb
 refine fn_enter (args := [_]) func132 rfl ntmps132 rfl hH (sq (pl (qa rfl (n0 (sq (sq (pl (qm rfl (qq rfl (RD.sl_eql_nil runUnderlying32 rfl rfl) ?_)))))))))
 refine n0 ?_
 rcases a with _ | ad
 ·have hy : ys = [] := Classical.byContradiction fun h => by obtain ⟨_, h', _⟩ := hb h; cases h'
  subst hy
  exact pn_condT rfl (sq (pl (qa rfl (n0 (rt (pn_done rfl rfl (.inr ⟨rfl, rfl, rfl⟩) (List.nil_sublist _) (by simp)))))))
 ·refine pn_condF rfl (sk (sq (pl (TE_buildSlice0 rfl runUnderlying32 sizeOf5 trivial rfl fun b5 hb5 => (qm rfl ?_)))))
  by_cases hy : ys = []
  ·subst hy
   exact ql rfl (RD.append0 underlying32 elByte rfl rfl (Nat.zero_le _)) (qa rfl (n0 (rt (pn_done rfl rfl (.inl ⟨b5, 0, [], rfl, rfl, Nat.zero_le _, by decide, rfl⟩) (List.Sublist.cons_cons _ (List.nil_sublist _)) (by simp; exact hb5)))))
  ·refine TE_appendS (i := 0) (n := 0) (xs := []) (tl := []) (ys := bcells ys) rfl rfl trivial rfl underlying32 elByte rfl rfl rfl rfl rfl rfl rfl (Nat.le_refl _) (by decide) (hb0.src hy (fun w hw => hw.left.sub (List.sublist_cons_self _ _))) (by simp) (bcells_one _) (List.length_pos_iff.2 hy) (maxLen_ge (by omega)) (by omega) (.inl hb5) ?_
   intro b' cap' tl' h1 h2 h3 h4
   exact qa rfl (n0 (rt (pn_done rfl rfl (.inl ⟨b', cap', tl', by show Value.slice _ (0 + ys.length) _ = _; rw [Nat.zero_add], rfl, by omega, h2, by simpa using h3⟩) (List.Sublist.cons_cons _ (List.nil_sublist _)) (by simp; rcases h4 with rfl | h4; exact hb5; exact h4))))
theorem c_sinkAll (s : Nat) (l : List UInt8) (st : SnkS) (w : World) (hok : SnkOk l st) (hl : l.length ≤ 2199023255552) (hw : Hp (snkM 137 5 s l st) w) : Calls Tryz.prog 78 #[.pointer (some ⟨s, 0, none⟩)] w (Ret w [] fun v H1 => RetB 5 v H1 l) := by
 refine fn_enter (args := [_]) func78 rfl ntmps78 rfl hw (sq (pl (qa rfl (n0 (sq (sq (pl (qm rfl (qq rfl (RD.ptr_eql_nil runUnderlying138 rfl rfl) ?_)))))))))
 refine n0 (pn_condF rfl (sk (sq (pl (qm rfl (qn rfl (qq rfl (RD.fieldAddr (o := 0) runUnderlying137 rfl rfl sizeOf32 rfl) ?_)))))))
 rcases st with _ | ⟨b, cap, tl⟩
 ·obtain rfl : l = [] := hok
  refine ql rfl (RD.load (i := 0) isAgg32 rfl rfl rfl) (TE_call rfl rfl trivial call132 rfl rfl rfl (fun w hs => c_clone [] _ [] w (Hp.nil _) BytesIn.nil (by decide)) ?_)
  rintro v9 H4 hr hn
  exact qa rfl (n0 (rt (pn_done rfl rfl hr (List.sublist_append_left _ _) (fun e he => .inr (hn e he)))))
 ·refine ql rfl (RD.load (i := 0) isAgg32 rfl rfl rfl) (TE_call rfl rfl trivial call132 rfl rfl rfl (fun w hs => c_clone _ _ l w hs.hp (BytesIn.blk (i := 1) (tl := tl) rfl) hl) ?_)
  rintro v9 H4 hr hn
  exact qa rfl (n0 (rt (pn_done rfl rfl hr (List.sublist_append_left _ _) (fun e he => .inr (hn e he)))))
theorem c_sinkRaw (HX : Mem) (s : Nat) (l ys : List UInt8) (st : SnkS) (xv : Value) (w : World) (hok : SnkOk l st) (hl : l.length ≤ 1099511627776) (hy1 : ys.length ≤ 1099511627776) (hb : BytesIn HX xv ys) (hw : Hp (snkM 137 5 s l st ++ HX) w) : Calls Tryz.prog 76 #[(.pointer (some ⟨s, 0, none⟩)), xv] w (Ret w (keys (snkM 137 5 s l st)) fun v H1 => ∃ st', v = (.pointer (some ⟨s, 0, none⟩)) ∧ H1 = snkM 137 5 s (l ++ ys) st' ∧ SnkOk (l ++ ys) st' ∧ (st.isSome → st'.isSome) ∧ (ys ≠ [] → st'.isSome)) := by
 have hb0 := hb
 obtain ⟨a, c, rfl, hb⟩ := hb
 refine fn_enter (args := [_, _]) func76 rfl ntmps76 rfl hw (sq (pl (qa rfl (n0 (sq (sq (pl (qm rfl (qq rfl (RD.ptr_neq_nil runUnderlying138 rfl rfl) ?_)))))))))
 refine n0 (pn_condT rfl (pl (qm rfl (qm rfl (qn rfl (qq rfl (RD.fieldAddr (o := 0) runUnderlying137 rfl rfl sizeOf32 rfl) ?_))))))
 by_cases hy : ys = []
 ·subst hy
  rcases st with _ | ⟨b, cap, tl⟩
  ·obtain rfl : l = [] := hok
   refine ql rfl (RD.load (i := 0) isAgg32 rfl rfl rfl) (qm rfl (ql rfl (RD.append0 underlying32 elByte rfl rfl (Nat.zero_le _)) (qn rfl (qq rfl (RD.fieldAddr (o := 0) runUnderlying137 rfl rfl sizeOf32 rfl) (TE_store (i := 0) rfl sizeOf32 trivial rfl rfl rfl rfl rfl rfl (.inr (by simp [snkM])) (n0 (sq (pl (qm rfl ?_)))))))))
   exact qa rfl (n0 (rt (pn_done rfl rfl ⟨none, rfl, rfl, rfl, by simp, by simp⟩ (List.sublist_append_left [_] _) (snk_all0 (fun k => k ∈ keys (snkM 137 5 s [] none) ∨ w.heap.size ≤ k) (snk_s (fun k => k ∈ keys (snkM 137 5 s [] none) ∨ w.heap.size ≤ k) in_keys)))))
  ·refine ql rfl (RD.load (i := 0) isAgg32 rfl rfl rfl) (qm rfl (ql rfl (RD.append0 underlying32 elByte rfl rfl hok.1) (qn rfl (qq rfl (RD.fieldAddr (o := 0) runUnderlying137 rfl rfl sizeOf32 rfl) (TE_store (i := 0) rfl sizeOf32 trivial rfl rfl rfl rfl rfl rfl (.inr (by simp [snkM])) (n0 (sq (pl (qm rfl ?_)))))))))
   exact qa rfl (n0 (rt (pn_done rfl rfl ⟨some (b, cap, tl), rfl, by rw [List.append_nil]; rfl, by rw [List.append_nil]; exact hok, by simp, by simp⟩ (List.sublist_append_left [_, _] _) (snk_all (fun k => k ∈ keys (snkM 137 5 s l (some (b, cap, tl))) ∨ w.heap.size ≤ k) (snk_s (fun k => k ∈ keys (snkM 137 5 s l (some (b, cap, tl))) ∨ w.heap.size ≤ k) in_keys) (snk_b (fun k => k ∈ keys (snkM 137 5 s l (some (b, cap, tl))) ∨ w.heap.size ≤ k) in_keys)))))
 ·rcases st with _ | ⟨b, cap, tl⟩
  ·obtain rfl : l = [] := hok
   refine ql rfl (RD.load (i := 0) isAgg32 rfl rfl rfl) (qm rfl (TE_appendN (ys := bcells ys) rfl rfl trivial rfl underlying32 elByte rfl rfl rfl rfl (hb0.src hy (fun w hw => hw.left.right)) (by simp) (bcells_one _) (List.length_pos_iff.2 hy) (maxLen_ge (by omega)) (by omega) ?_))
   intro b' cap' tl' h1 h2 h3 h4
   refine qn rfl (qq rfl (RD.fieldAddr (o := 0) runUnderlying137 rfl rfl sizeOf32 rfl) (TE_store (i := 1) rfl sizeOf32 trivial rfl rfl rfl rfl rfl rfl (.inr (by simp [snkM])) (n0 (sq (pl (qm rfl (qa rfl (n0 (rt ?_)))))))))
   exact pn_pickT [1, 0] [_, _] _ rfl rfl rfl (pn_done rfl rfl ⟨some (b', cap', tl'), rfl, rfl, SnkOk_app (l := []) (by simpa using h1) h2 h3, by simp, by simp⟩ (List.sublist_append_left [_, _] _) (snk_all (fun k => k ∈ keys (snkM 137 5 s [] none) ∨ w.heap.size ≤ k) (snk_s (fun k => k ∈ keys (snkM 137 5 s [] none) ∨ w.heap.size ≤ k) in_keys) (.inr h4)))
  ·refine ql rfl (RD.load (i := 0) isAgg32 rfl rfl rfl) (qm rfl (TE_appendS (i := 1) (n := l.length) (xs := bcells l) (tl := tl) (ys := bcells ys) rfl rfl trivial rfl underlying32 elByte rfl rfl rfl rfl rfl (by simp) hok.2.2 hok.1 hok.2.1 (hb0.src hy (fun w hw => hw.left.right)) (by simp) (bcells_one _) (List.length_pos_iff.2 hy) (maxLen_ge (by omega)) (by omega) (.inr (by simp [snkM])) ?_))
   intro b' cap' tl' h1 h2 h3 h4
   refine qn rfl (qq rfl (RD.fieldAddr (o := 0) runUnderlying137 rfl rfl sizeOf32 rfl) (TE_store (i := 0) rfl sizeOf32 trivial rfl rfl rfl rfl rfl rfl (.inr (by simp [snkM])) (n0 (sq (pl (qm rfl (qa rfl (n0 (rt ?_)))))))))
   exact pn_done rfl rfl ⟨some (b', cap', tl'), rfl, rfl, SnkOk_app h1 h2 h3, by simp, by simp⟩ (by rw [snk_app]; exact List.sublist_append_left [_, _] _) (snk_all (fun k => k ∈ keys (snkM 137 5 s l (some (b, cap, tl))) ∨ w.heap.size ≤ k) (snk_s (fun k => k ∈ keys (snkM 137 5 s l (some (b, cap, tl))) ∨ w.heap.size ≤ k) in_keys) (h4.elim (fun h => h ▸ snk_b (fun k => k ∈ keys (snkM 137 5 s l (some (b, cap, tl))) ∨ w.heap.size ≤ k) in_keys) .inr))
end Go.Proofs.YtmjmaloapafnlaaGreatDoor

namespace Go.Proofs.YtmjmaloapafnlaaGreatDoor
open Tryz
open Go Go.Mv
set_option maxRecDepth 4000
theorem c_sinkBytes (HX : Mem) (s : Nat) (l ys : List UInt8) (st : SnkS) (xv : Value) (w : World) (hok : SnkOk l st) (hl : l.length ≤ 549755813888) (hy1 : ys.length ≤ 549755813888) (hb : BytesIn HX xv ys) (hw : Hp (HX ++ snkM 137 5 s l st) w) : Calls Tryz.prog 228 #[(.pointer (some ⟨s, 0, none⟩)), xv] w (Ret w (keys (snkM 137 5 s l st)) fun v H1 => ∃ st', v = (.pointer (some ⟨s, 0, none⟩)) ∧ H1 = snkM 137 5 s (l ++ lebL ys.length ++ ys) (some st') ∧ SnkOk (l ++ lebL ys.length ++ ys) (some st')) := by
 have hb0 := hb
 obtain ⟨a, c, rfl, hb⟩ := hb
 have h10 := lebL_len64 (n := ys.length) (by omega)
 refine fn_enter (args := [_, _]) func228 rfl ntmps228 rfl hw (sq (pl (qa rfl (n0 (sq (pn_plain [2, 3] rfl (qm rfl (qm rfl (qq rfl (RD.len_slice runUnderlying32 rfl) ?_)))))))))
 refine qq rfl (RD.as (RD.conv runUnderlying3 runUnderlying120 rfl) (u64_len (by omega))) (TE_callT HX _ rfl rfl rfl trivial call229 rfl rfl rfl (snk_in rfl) (fun w hs => c_sinkNumber s ys.length l st w (by omega) hok (by omega) hs.hp.mid) ?_)
 rintro v9 H4 ⟨⟨b', cap', tl'⟩, rfl, rfl, hok1⟩ hX1
 refine qm rfl (TE_callT HX _ rfl rfl rfl trivial call76 rfl rfl rfl hX1 (fun w hs => c_sinkRaw HX s _ ys _ _ w hok1 (by simp <;> omega) (by omega) hb0 (hs.hp.left.perm List.perm_append_comm)) ?_)
 rintro v11 H6 ⟨st2, rfl, rfl, hok2, hs2, -⟩ hX2
 refine qa rfl (n0 (rt ?_))
 obtain ⟨st3, rfl⟩ := Option.isSome_iff_exists.1 (hs2 rfl); exact pn_done rfl rfl ⟨st3, rfl, rfl, hok2⟩ (List.sublist_append_right _ _) (where_ hX2)
end Go.Proofs.YtmjmaloapafnlaaGreatDoor

namespace Go.Proofs.YtmjmaloapafnlaaGreatDoor
open Go Go.Mv
set_option maxRecDepth 4000
def byteBad (b : UInt8) : Bool := decide (b.toNat < 33) || decide (126 < b.toNat) || decide (0 ≤ Lib.indexByte [126, 94, 58, 63, 42, 91, 92] b)
def byByteB (s : ByteArray) : Bool := s.data.toList.any byteBad
end Go.Proofs.YtmjmaloapafnlaaGreatDoor

namespace Go.Proofs.YtmjmaloapafnlaaGreatDoor
open Go Go.Mv
set_option maxRecDepth 4000
def pLong (s : ByteArray) : Bool := decide (s = ⟨#[]⟩) || decide (100 < (s.size : Int))
def pEmpty (s : ByteArray) : Bool := decide (s = ⟨#[]⟩)
def pDot (s : ByteArray) : Bool := Lib.hasPrefix s.data.toList [46]
def pLock (s : ByteArray) : Bool := Lib.hasSuffix s.data.toList [46, 108, 111, 99, 107]
def pEnd (s : ByteArray) : Bool := Lib.hasSuffix s.data.toList [46]
def pHas (u : ByteArray) (s : ByteArray) : Bool := Lib.contains s.data.toList u.data.toList
def pPart (f : ByteArray → Bool) (s : ByteArray) : Bool := (partsOf s).any f
end Go.Proofs.YtmjmaloapafnlaaGreatDoor

namespace Go.Proofs.YtmjmaloapafnlaaGreatDoor
open Go Go.Mv
set_option maxRecDepth 4000
def brk (n : Int) (s : ByteArray) : Bool := bif decide (n = 1) then pLong s else bif decide (n = 2) then byByteB s else bif decide (n = 3) then pPart pEmpty s else bif decide (n = 4) then pPart pDot s else bif decide (n = 5) then pHas ⟨#[46, 46]⟩ s else bif decide (n = 6) then pPart pLock s else bif decide (n = 7) then pEnd s else pHas ⟨#[64, 123]⟩ s
/-- P4.1: the first rule that a name breaks. -/
def breaksN (s : ByteArray) : Int := (([1, 2, 3, 4, 5, 6, 7, 8] : List Int).find? fun n => brk n s).getD 0
end Go.Proofs.YtmjmaloapafnlaaGreatDoor

namespace Go.Proofs.YtmjmaloapafnlaaGreatDoor
open Go Go.Mv
set_option maxRecDepth 8000
theorem info_u8 : Tryz.prog.info? 5 = some Tryz.t5 := by kernel_rfl
theorem cells_u8 : Tryz.prog.cellsOf 5 = 1 := by kernel_rfl
theorem eq_id (f g : Nat → Int) (w : World) : (Op.equalIn 10000 36 (.agg (idV f).cells) (.agg (idV g).cells)).run Tryz.prog w = .ok (sameN 32 f g) w :=
  eqIn_ints (d := 9998) (k := .u8) Tryz.underlying36 info_u8 Tryz.underlying5 Tryz.isAgg5 cells_u8 (fun _ hi => ⟨id_at f hi, id_at g hi⟩) w
def tip0 (r : Rec) : Bool := sameN 32 r.tip fun _ => 0
/-- P12.1: a record that may be. -/
def recOkB (r : Rec) : Bool := dotOk r.s r.c && decide (r.ctx r.s.toNat = r.c - 1) && decide (breaksN r.ref = 0) && (r.has || tip0 r)
end Go.Proofs.YtmjmaloapafnlaaGreatDoor

namespace Go.Proofs.YtmjmaloapafnlaaGreatDoor
open Go Go.Mv
set_option maxRecDepth 8000
theorem retB_some {u : TypeId} {v : Value} {H1 : Mem} {ys : List UInt8} (h : RetB u v H1 ys) (hp : 0 < ys.length) : ∃ b cap tl, v = .slice (some ⟨b, 0, none⟩) ys.length cap ∧ H1 = [(b, .cells (bcells ys ++ tl).toArray u (0, 0))] := by
  rcases h with ⟨b, cap, tl, h1, h2, _⟩ | ⟨_, _, rfl⟩
  · exact ⟨b, cap, tl, h1, h2⟩
  · simp at hp
end Go.Proofs.YtmjmaloapafnlaaGreatDoor

namespace Go.Proofs.YtmjmaloapafnlaaGreatDoor
open Go Go.Mv
set_option maxRecDepth 8000
/-- Two records whose cells are the same. -/
structure SameR (a b : Rec) : Prop where
  s : a.s = b.s
  c : a.c = b.c
  ctx : ∀ i, i < 16 → a.ctx i = b.ctx i
  ref : a.ref = b.ref
  has : a.has = b.has
  tip : ∀ i, i < 32 → a.tip i = b.tip i
theorem sameN_congr {a b c : Nat → Int} (n : Nat) (h : ∀ i, i < n → a i = b i) : sameN n a c = sameN n b c := by
  apply Bool.eq_iff_iff.2
  rw [sameN_iff, sameN_iff]
  exact ⟨fun k i hi => (h i hi).symm.trans (k i hi), fun k i hi => (h i hi).trans (k i hi)⟩
theorem SameR.ok {a b : Rec} (h : SameR a b) : recOkB a = recOkB b := by
  simp only [recOkB]
  rw [show tip0 a = tip0 b from sameN_congr 32 h.tip, h.s, h.c, h.ref, h.has]
  cases hd : dotOk b.s b.c with
  | false => rfl
  | true =>
    have := dotOk_iff.1 hd
    rw [h.ctx b.s.toNat (by omega)]
theorem eqIn_string {P : Program} {T : TypeId} {w : World} {d : Nat} {a b : ByteArray} (hT : P.underlying T = some .string) : (Op.equalIn (d + 1) T (.string a) (.string b)).run P w = .ok (decide (a = b)) w := by
  rw [run_equalIn_string w d T a b hT, string_beq]
end Go.Proofs.YtmjmaloapafnlaaGreatDoor

namespace Go.Proofs.YtmjmaloapafnlaaGreatDoor
open Go Go.Mv
set_option maxRecDepth 8000
def rawD (n : Nat) (ys : List UInt8) : Dr (List UInt8) := if ys.length < n then .err 10 else .ok (ys.take n) (ys.drop n)
def bytesD (most : Nat) (ys : List UInt8) : Dr (List UInt8) :=
  match numD most ys with
  | .err e => .err e
  | .ok n r => rawD n r
def tipOf (l : List UInt8) : Nat → Int := fun i => ((l.getD i 0).toNat : Int)
theorem rawD_back (b r : List UInt8) : rawD b.length (b ++ r) = .ok b r := by
  simp only [rawD]; rw [if_neg (by simp), List.take_left' rfl, List.drop_left' rfl]
theorem rawD_ok {n : Nat} {ys b r : List UInt8} (h : rawD n ys = .ok b r) : ys = b ++ r ∧ b.length = n := by
  simp only [rawD] at h
  split at h
  · cases h
  · rename_i hl
    simp only [Dr.ok.injEq] at h
    obtain ⟨rfl, rfl⟩ := h
    exact ⟨(List.take_append_drop n ys).symm, by simp; omega⟩
theorem bytesD_back {most : Nat} {b : List UInt8} (r : List UInt8) (h : b.length ≤ most) (h2 : b.length < 18446744073709551616) : bytesD most (lebL b.length ++ b ++ r) = .ok b r := by
  have h1 := numD_leb (n := b.length) (most := most) (b ++ r) h2 h
  rw [List.append_assoc]
  simp only [bytesD, h1, rawD_back]
theorem bytesD_ok {most : Nat} {ys b r : List UInt8} (h : bytesD most ys = .ok b r) : ys = lebL b.length ++ b ++ r ∧ b.length ≤ most := by
  simp only [bytesD] at h
  split at h
  · cases h
  · rename_i n r1 hn
    obtain ⟨h1, h2, _⟩ := numD_ok hn
    obtain ⟨h3, h4⟩ := rawD_ok h
    subst h4
    exact ⟨by rw [h1, h3, List.append_assoc], h2⟩
theorem tipL_tipOf {l : List UInt8} (h : l.length = 32) : tipL (tipOf l) = l := by
  apply List.ext_getElem?
  intro i
  by_cases hi : i < 32
  · have h2 : l[i]? = some (l[i]'(by omega)) := List.getElem?_eq_getElem (by omega)
    simp only [tipL, tipOf, List.getElem?_map, List.getElem?_range hi, Option.map_some, List.getD_eq_getElem?_getD, h2, Option.getD_some, Int.toNat_natCast, UInt8.ofNat_toNat]
  · rw [List.getElem?_eq_none (by rw [tipL_len]; omega), List.getElem?_eq_none (by omega)]
theorem tipOf_tipL {t : Nat → Int} (ht : IdOk t) {i : Nat} (hi : i < 32) : tipOf (tipL t) i = t i := by
  have := ht i
  simp only [tipOf, tipL, List.getD_eq_getElem?_getD, List.getElem?_map, List.getElem?_range hi, Option.map_some, Option.getD_some]
  rw [UInt8.toNat_ofNat_of_lt' (show (t i).toNat < 256 by omega)]; omega

end Go.Proofs.YtmjmaloapafnlaaGreatDoor

namespace Go.Proofs.YtmjmaloapafnlaaGreatDoor
open Tryz
open Go Go.Mv
set_option maxRecDepth 8000
def srcM (s : Nat) (v : Value) (HX : Mem) : Mem := (s, .cells #[v] 215 (0, 0)) :: HX
theorem in_src {s n : Nat} {v v' : Value} {HX : Mem} : ∀ e ∈ srcM s v HX, e.1 ∈ keys (srcM s v' HX) ∨ n ≤ e.1 := fun e he => .inl (show e.1 ∈ keys (srcM s v HX) from mem_keys.2 ⟨e, he, rfl⟩)
theorem build_src (a : Option Addr) (n c : Nat) (w : World) : (Instr.build 215 #[(0, .slice a n c)]).run Tryz.prog w = .ok (.agg #[.slice a n c]) w := by
  simp [Instr.build, zeroValue215, runUnderlying215, sizeOf32, Value.cells, Instr.fill]

theorem c_from (HX : Mem) (xv : Value) (ys : List UInt8) (w : World) (hb : BytesIn HX xv ys) (hlen : ys.length ≤ 2199023255552) (hH : Hp HX w) : Calls Tryz.prog 80 #[xv] w (Ret w [] fun v H1 => ∃ s sv H2, v = .pointer (some ⟨s, 0, none⟩) ∧ H1 = srcM s sv H2 ∧ Rdb H2 sv ys) := by
 refine fn_enter (args := [_]) func80 rfl ntmps80 rfl hH (sq (pl (qa rfl (n0 (sq (pl (qm rfl (TE_call rfl rfl trivial call132 rfl rfl rfl (fun w hs' => c_clone HX xv ys w hs'.hp.left hb hlen) ?_))))))))
 rintro v4 H1 hr hX
 obtain ⟨a, c, rfl⟩ := hr.rdb.shape
 exact qq rfl (RD.build rfl (build_src _ _ _)) (TE_box rfl rfl trivial rfl fun b6 hb6 => (qa rfl (n0 (rt (pn_done rfl rfl ⟨b6, _, H1, rfl, rfl, hr.rdb⟩ (List.Sublist.cons_cons _ (List.sublist_append_left _ _)) (allC (Q := fun k => k ∈ _ ∨ _ ≤ k) (.inr hb6) (fun e he => .inr (hX e he))))))))
theorem c_back (s e : Nat) (a : Option Addr) (n c : Nat) (w : World) (hH : Hp [(s, .cells #[.slice a n c] 215 (0, 0))] w) : Calls Tryz.prog 136 #[.pointer (some ⟨s, 0, none⟩), .pointer (some ⟨e, 0, none⟩)] w (Ret w [] fun v H1 => ∃ x2 x3 x5, v = .func (.func 170) #[] #[.pointer (some ⟨x3, 0, none⟩), .pointer (some ⟨x5, 0, none⟩), .pointer (some ⟨x2, 0, none⟩)] ∧ H1 = [(x5, .cells #[.slice a n c] 32 (0, 0)), (x3, .cells #[.pointer (some ⟨e, 0, none⟩)] 217 (0, 0)), (x2, .cells #[.pointer (some ⟨s, 0, none⟩)] 148 (0, 0))]) := by
 refine fn_enter (args := [_, _]) func136 rfl ntmps136 rfl hH (sq (pl (TE_box rfl rfl trivial rfl fun b2 hb2 => (TE_box rfl rfl trivial rfl fun b3 hb3 => (qa rfl (n0 (sq (pl (ql rfl (RD.load (i := 1) isAgg148 rfl rfl rfl) ?_)))))))))
 refine qn rfl (qq rfl (RD.fieldAddr (o := 0) runUnderlying215 rfl rfl sizeOf32 rfl) (ql rfl (RD.load (i := 2) isAgg32 rfl rfl rfl) (TE_alloc rfl zeroValue32 trivial rfl fun b5 hb5 => (TE_store (i := 0) rfl sizeOf32 trivial rfl rfl rfl rfl rfl rfl (.inl (by assumption)) (n0 (sq (pl (qq rfl (RD.makeFunc rfl rfl) (qa rfl ?_)))))))))
 exact n0 (rt (pn_done rfl rfl ⟨b2, b3, b5, rfl, rfl⟩ (List.Sublist.cons_cons _ (List.Sublist.cons_cons _ (List.Sublist.cons_cons _ (List.nil_sublist _)))) (by simp; exact ⟨hb5, hb3, hb2⟩)))
theorem c_back1 (s e x2 x3 x5 : Nat) (a a' : Option Addr) (n c n' c' : Nat) (ev : Int) (w : World) (hw : Hp ([(x5, .cells #[.slice a n c] 32 (0, 0)), (x3, .cells #[.pointer (some ⟨e, 0, none⟩)] 217 (0, 0)), (x2, .cells #[.pointer (some ⟨s, 0, none⟩)] 148 (0, 0)), (e, .cells #[.int .i64 ev] 25 (0, 0))] ++ [(s, .cells #[.slice a' n' c'] 215 (0, 0))]) w) : CallsDf Tryz.prog 170 #[.pointer (some ⟨x3, 0, none⟩), .pointer (some ⟨x5, 0, none⟩), .pointer (some ⟨x2, 0, none⟩)] w (Ret w [s] fun _ H1 => H1 = [(s, .cells #[if ev = 0 then .slice a' n' c' else .slice a n c] 215 (0, 0))]) := by
 refine fn_enterD (args := [_, _, _]) func170 rfl ntmps170 rfl hw (sq (pl (ql rfl (RD.load (i := 1) isAgg217 rfl rfl rfl) (qn rfl (ql rfl (RD.load (i := 3) isAgg25 rfl rfl rfl) (qq rfl (RD.neq rfl rfl) (n0 ?_)))))))
 first | refine pn_condD rfl (fun hc0 => ?_) (fun hc0 => ?_) | refine pn_condN rfl (fun hc0 => ?_) (fun hc0 => ?_) | refine pn_cond rfl (fun hc0 => ?_) (fun hc0 => ?_)
 ·refine pl (ql rfl (RD.load (i := 2) isAgg148 rfl rfl rfl) (ql rfl (RD.load (i := 0) isAgg32 rfl rfl rfl) (qn rfl (qq rfl (RD.fieldAddr (o := 0) runUnderlying215 rfl rfl sizeOf32 rfl) (TE_store (i := 4) rfl sizeOf32 trivial rfl rfl rfl rfl rfl rfl (.inr (by simp)) (n0 ?_))))))
  (rw [if_neg hc0]; exact pn_doneD rfl rfl rfl (fun w h => h.sub (.cons _ (.cons _ (.cons _ (.cons _ (List.Sublist.refl _)))))) (by simp))
 ·refine sk ?_
  (rw [if_pos hc0]; exact pn_doneD rfl rfl rfl (fun w h => h.sub (.cons _ (.cons _ (.cons _ (.cons _ (List.Sublist.refl _)))))) (by simp))
theorem c_next (s : Nat) (w : World) : Calls Tryz.prog 171 #[.pointer (some ⟨s, 0, none⟩)] w (Ret w [] fun v H1 => ∃ x1, v = .func (.func 196) #[] #[.pointer (some ⟨x1, 0, none⟩)] ∧ H1 = [(x1, .cells #[.pointer (some ⟨s, 0, none⟩)] 148 (0, 0))]) := by
 refine fn_enter (args := [_]) func171 rfl ntmps171 rfl (Hp.nil w) (sq (pl (TE_box rfl rfl trivial rfl fun b1 hb1 => (qa rfl (n0 (sq (pl (qq rfl (RD.makeFunc rfl rfl) (qa rfl ?_)))))))))
 exact n0 (rt (pn_done rfl rfl ⟨b1, rfl, rfl⟩ (List.Sublist.refl _) (by simp; exact hb1)))
end Go.Proofs.YtmjmaloapafnlaaGreatDoor

namespace Go.Proofs.YtmjmaloapafnlaaGreatDoor
open Tryz
open Go Go.Mv
set_option maxRecDepth 8000
theorem it_next (HX : Mem) (x1 s : Nat) (a : Option Addr) (n c : Nat) (ys : List UInt8) (hb : Rdb HX (.slice a n c) ys) (hlen : ys.length ≤ 4611686018427387904) : Iter Tryz.prog 196 [.pointer (some ⟨x1, 0, none⟩)] (fun x => [bcell x]) ((x1, .cells #[.pointer (some ⟨s, 0, none⟩)] 148 (0, 0)) :: srcM s (.slice a n c) HX) ys (fun pre HI' => ∃ a' n' c', HI' = srcM s (.slice a' n' c') HX ∧ Rdb HX (.slice a' n' c') (ys.drop pre.length)) := by
 intro σ l HJ G S w s0 h0 hHp hy
 refine fn_enter (args := [_, _]) func196 rfl ntmps196 rfl hHp (pn_block (pn_loop (σ := List UInt8 × List UInt8 × Option Addr × Nat × Nat × σ) (fun _ => [(0, .func (.yield l) #[] #[]), (1, .pointer (some ⟨x1, 0, none⟩))]) (fun x => (x1, .cells #[.pointer (some ⟨s, 0, none⟩)] 148 (0, 0)) :: srcM s (.slice x.2.2.1 x.2.2.2.1 x.2.2.2.2.1) (HX ++ HJ x.2.2.2.2.2)) (fun x => ys = x.1 ++ x.2.1 ∧ Rdb HX (.slice x.2.2.1 x.2.2.2.1 x.2.2.2.2.1) x.2.1 ∧ G x.1 x.2.2.2.2.2 ∧ (∀ e ∈ HJ x.2.2.2.2.2, w.heap.size ≤ e.1 ∨ e.1 ∈ keys (((x1, .cells #[.pointer (some ⟨s, 0, none⟩)] 148 (0, 0)) :: srcM s (.slice a n c) HX) ++ HJ s0))) (fun x => x.2.1.length) ([], ys, a, n, c, s0) ⟨rfl, hb, h0, fun e he => .inr (mem_keys.2 ⟨e, by simp [he], rfl⟩)⟩ ⟨rfl, rfl, trivial⟩ (List.Sublist.refl _) ?_))
 rintro ⟨pre, rest, a', n', c', st⟩ ⟨hpre, hb', hG, hX⟩; dsimp only at hpre hb' hG hX ⊢; have hXs : ∀ e ∈ srcM s (.slice a' n' c') HX, e.1 ∈ keys (((x1, .cells #[.pointer (some ⟨s, 0, none⟩)] 148 (0, 0)) :: srcM s (.slice a n c) HX) ++ HJ s0) ∨ w.heap.size ≤ e.1 := (allC (Q := fun k => k ∈ keys (((x1, .cells #[.pointer (some ⟨s, 0, none⟩)] 148 (0, 0)) :: srcM s (.slice a n c) HX) ++ HJ s0) ∨ w.heap.size ≤ k) (.inl (by simp [srcM])) (fun e he => .inl (mem_keys.2 ⟨e, by simp [srcM, he], rfl⟩))); rcases rest with _ | ⟨ch, r⟩
 ·refine sq (sq (pn_plain [4] rfl (ql rfl (RD.load (i := 0) isAgg148 rfl rfl rfl) (qn rfl (qq rfl (RD.fieldAddr (o := 0) runUnderlying215 rfl rfl sizeOf32 rfl) (ql rfl (RD.load (i := 1) isAgg32 rfl rfl rfl) (qq rfl (RD.lenR runUnderlying32 rfl hb') (qq rfl (RD.gtr rfl rfl) (n0 ?_)))))))))
  refine pn_condF rfl (xt ?_)
  (rw [List.append_nil] at hpre; subst hpre; exact pn_done rfl rfl ⟨st, srcM s (.slice a' n' c') HX, rfl, .inl ⟨hG, a', n', c', rfl, by simpa using hb'⟩⟩ (List.sublist_cons_self _ _) (allA (Q := fun k => k ∈ _ ∨ _ ≤ k) hXs (fun e he => (hX e he).symm)))
 ·obtain ⟨bb, off, cap, hsl, hcap, hcell⟩ := hb'.cons; simp only [Value.slice.injEq] at hsl; obtain ⟨rfl, rfl, rfl⟩ := hsl; have hlr : r.length + 1 ≤ 4611686018427387904 := (by have := congrArg List.length hpre; simp only [List.length_append, List.length_cons] at this; omega); have hcut := hb'.cut (l := 1) (by simp); have hpx : (pre ++ [ch]) <+: ys := ⟨r, by rw [hpre, List.append_assoc]; rfl⟩; have hdr : ys.drop (pre ++ [ch]).length = r := (by rw [hpre, show pre ++ ch :: r = (pre ++ [ch]) ++ r from by simp, List.drop_left])
  refine sq (sq (pn_plain [4] rfl (ql rfl (RD.load (i := 0) isAgg148 rfl rfl rfl) (qn rfl (qq rfl (RD.fieldAddr (o := 0) runUnderlying215 rfl rfl sizeOf32 rfl) (ql rfl (RD.load (i := 1) isAgg32 rfl rfl rfl) (qq rfl (RD.lenR runUnderlying32 rfl hb') (qq rfl (RD.as (v := .bool true) (RD.gtr rfl rfl) (by rw [decide_eq_true (by simp only [List.length_cons]; omega)])) (n0 ?_)))))))))
  refine pn_condT rfl (sk (pn_block (sq (pl (ql rfl (RD.load (i := 0) isAgg148 rfl rfl rfl) (qn rfl (qq rfl (RD.fieldAddr (o := 0) runUnderlying215 rfl rfl sizeOf32 rfl) (ql rfl (RD.load (i := 1) isAgg32 rfl rfl rfl) (qq rfl (RD.indexAddrS runUnderlying32 sizeOf5 rfl rfl (by omega) (by omega)) ?_)))))))))
  refine ql rfl (RD.loadC isAgg5 rfl (fun w hw => hcell w (hw.left.sub (.cons _ (.cons _ (List.sublist_append_left _ _)))))) (qa rfl (n0 (sq (pn_drawT [0, 1] [1] [0] [_, _] (HX ++ HJ st) rfl rfl (by kernel_rfl) (by kernel_rfl) rfl rfl (qq rfl (RD.load (i := 0) isAgg148 rfl rfl rfl) (qq rfl (RD.load (i := 0) isAgg148 rfl rfl rfl) (qn rfl (qq rfl (RD.fieldAddr (o := 0) runUnderlying215 rfl rfl sizeOf32 rfl) (ql rfl (RD.load (i := 0) isAgg32 rfl rfl rfl) ?_)))))))))
  refine qq rfl (RD.sliceR (l := 1) (h := r.length + 1) runUnderlying32 sizeOf5 rfl hb' ⟨_, rfl⟩ (by simp) (by omega) (by simp)) (qn rfl (qq rfl (RD.fieldAddr (o := 0) runUnderlying215 rfl rfl sizeOf32 rfl) (TE_store (i := 0) rfl sizeOf32 trivial rfl rfl rfl rfl rfl rfl (.inr (by simp [srcM])) (TE_nil (sq (pn_pickT [1, 0] [_, _] (HX ++ HJ st) rfl rfl rfl (pl (qm rfl (qm rfl ?_)))))))))
  refine TE_yieldT (_ :: _ :: HX) (HJ st) rfl rfl rfl trivial rfl rfl rfl hX (fun W hW => hy pre ch st W hG hpx hW.fr (hW.hp.left.sub (.cons _ (.cons _ (List.sublist_append_right _ _))))) ?_
  rintro v26 H2 ⟨s', rfl, ⟨rfl, hG'⟩ | ⟨rfl, hS'⟩⟩ hX'
  all_goals refine TE_q rfl rfl (RD.not rfl) rfl ?_
  all_goals refine TE_nil0 ?_
  all_goals first
   | (
     refine pn_condT rfl (rt ?_)
     exact pn_done rfl rfl ⟨s', srcM s (subV 1 (r.length + 1) (.slice (some ⟨bb, off, none⟩) (r.length + 1) c')) HX, rfl, .inr ⟨pre ++ [ch], hpx, hS', _, _, _, rfl, by rw [hdr]; exact hcut⟩⟩ (List.sublist_cons_self _ _) (allA (Q := fun k => k ∈ _ ∨ _ ≤ k) (allC (Q := fun k => k ∈ _ ∨ _ ≤ k) (hXs (s, _) List.mem_cons_self) (oC hXs)) (where_ hX')))
   | (
     refine pn_condF rfl (sk ?_)
     (exact pn_again (pre ++ [ch], r, _, _, _, s') ⟨by rw [hpre, List.append_assoc]; rfl, hcut, hG', hX'⟩ (by show r.length < (ch :: r).length; simp) ⟨rfl, rfl, trivial⟩ (List.Sublist.refl _)))
   | (
     first | refine pn_condD rfl (fun hc1 => ?_) (fun hc1 => ?_) | refine pn_condN rfl (fun hc1 => ?_) (fun hc1 => ?_) | refine pn_cond rfl (fun hc1 => ?_) (fun hc1 => ?_)
     ·exact rt (pn_done rfl rfl ⟨s', srcM s (subV 1 (r.length + 1) (.slice (some ⟨bb, off, none⟩) (r.length + 1) c')) HX, rfl, .inr ⟨pre ++ [ch], hpx, hS', _, _, _, rfl, by rw [hdr]; exact hcut⟩⟩ (List.sublist_cons_self _ _) (allA (Q := fun k => k ∈ _ ∨ _ ≤ k) (allC (Q := fun k => k ∈ _ ∨ _ ≤ k) (hXs (s, _) List.mem_cons_self) (oC hXs)) (where_ hX')))
     ·refine sk ?_
      (exact pn_again (pre ++ [ch], r, _, _, _, s') ⟨by rw [hpre, List.append_assoc]; rfl, hcut, hG', hX'⟩ (by show r.length < (ch :: r).length; simp) ⟨rfl, rfl, trivial⟩ (List.Sublist.refl _)))
end Go.Proofs.YtmjmaloapafnlaaGreatDoor
