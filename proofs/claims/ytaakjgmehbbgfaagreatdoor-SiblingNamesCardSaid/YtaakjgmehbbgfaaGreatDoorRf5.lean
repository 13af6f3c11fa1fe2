import Derived.Test.YtaakjgmehbbgfaaGreatDoorRf4
namespace Go.Proofs.YtaakjgmehbbgfaaGreatDoor
open Go Go.Mv
set_option maxRecDepth 4000
set_option maxHeartbeats 1000000 in
theorem c_breaks (s : ByteArray) (g : Obj) (w : World) (hg : GOk g) (hs : s.size < 4294967281) (hH : Hp [(0, g)] w) : Calls Tryz.prog 83 #[.string s] w (Ret w [] fun v H1 => v = .int .i64 (breaksN s) ∧ H1 = []) := by
  refine fn_enter (args := [_]) Tryz.func83 rfl Tryz.ntmps83 rfl hH ?_
  refine pn_seq ?_
  refine pn_plain [] rfl ?_
  refine TE_box rfl rfl trivial rfl fun b1 hb1 => ?_
  refine TE_q rfl rfl (RD.assign rfl) rfl ?_
  refine TE_nil0 ?_
  refine pn_scope ?_
  refine pn_seq ?_
  refine pn_plain [] rfl ?_
  refine TE_alloc rfl Tryz.zeroValue3 trivial rfl fun b3 hb3 => ?_
  refine TE_store (i := 0) rfl Tryz.sizeOf3 trivial rfl rfl rfl rfl rfl rfl (.inl (by assumption)) ?_
  refine TE_nil0 ?_
  refine pn_seq ?_
  refine pn_label ?_
  refine pn_seq ?_
  refine pn_seq ?_
  refine pn_plain [] rfl ?_
  refine TE_call rfl rfl trivial Tryz.call103 rfl rfl rfl (fun w hs' => c_rules w) ?_
  rintro v5 H0 ⟨bc, bs, x4, x6, x8, x10, x13, rfl, rfl⟩ hr
  refine TE_nil0 ?_
  refine pn_block ?_
  refine pn_rangeH (τ := Nat) (HI := [(bc, .cells #[.slice (some ⟨bs, 0, none⟩) 8 8] 167 (0, 0)), (bs, .cells (rulesL (theRules x4 x6 x8 x10 x13)).toArray 145 (0, 0))]) (HR := rulesBx x4 x6 x8 x10 x13 [(b1, .cells #[.string s] 9 (0, 0)), (0, g)]) (it_rules (theRules x4 x6 x8 x10 x13) bc bs (by simp [theRules])) (fun (n : Int) => [(b3, .cells #[.int .i64 n] 3 (0, 0))]) (fun pre n => n = 0 ∧ ∀ y ∈ pre, brk y.1 s = false) (fun c pre n => c = .exit 0 ∧ ∃ p x, pre = p ++ [x] ∧ (∀ y ∈ p, brk y.1 s = false) ∧ brk x.1 s = true ∧ n = x.1) 0 ⟨rfl, by simp⟩ rfl Tryz.call132 (by intro x; rfl) rfl (fun w h => h.perm (List.Perm.cons _ (List.Perm.cons _ (List.perm_middle (l₁ := [_, _, _, _, _]))))) (fun e he => .inl (by rcases List.mem_append.1 he with h | h; exact hr e (by simp only [rulesM, List.mem_cons, List.not_mem_nil, or_false] at h ⊢; rcases h with h | h; exact .inl h; exact .inr (.inl h)); simp at h; subst h; exact hb3)) (fun _ t => [(4, .pointer (some ⟨t, 0, none⟩)), (3, .pointer (some ⟨b3, 0, none⟩)), (1, .pointer (some ⟨b1, 0, none⟩))]) (fun x t => [(t, .cells (putL (Value.agg #[.int .i64 0, .nilFunc]).cells 0 (ruleV x).cells.toList) 145 (0, 0))]) (fun W t => W.heap.size ≤ t) ?_ ?_ ?_ ?_
  · intro W l1 pre x y R hW hG hpre
    refine pn_plain [] rfl ?_
    refine TE_alloc rfl Tryz.zeroValue145 trivial rfl fun b4 hb4 => ?_
    refine TE_put (i := 0) rfl Tryz.sizeOf145 trivial rfl rfl rfl rfl rfl rfl (.inl (by assumption)) ?_
    refine TE_nil0 ?_
    (exact fun a w hr hs => ⟨b4, hb4, hr.keeps ⟨rfl, rfl, rfl, trivial⟩, hs⟩)
  · rintro W l1 pre x n t R hW ⟨rfl, hpf⟩ hpre ht; have hrc := rule_call (x4 := x4) (x6 := x6) (x8 := x8) (x10 := x10) (x13 := x13) hg s hs x (hpre.subset (by simp))
    refine pn_block ?_
    refine pn_seq ?_
    refine pn_plain [] rfl ?_
    refine TE_q rfl rfl (RD.fieldAddr (o := 1) Tryz.runUnderlying145 rfl rfl Tryz.sizeOf143 rfl) rfl ?_
    refine TE_l rfl rfl trivial rfl (RD.load (i := 0) Tryz.isAgg143 rfl rfl rfl) rfl ?_
    refine TE_l rfl rfl trivial rfl (RD.load (i := 7) Tryz.isAgg9 rfl rfl rfl) rfl ?_
    refine TE_call (post := fun v H1 => v = .bool (brk x.1 s) ∧ H1 = []) rfl rfl trivial hrc.1 rfl rfl rfl (fun w hs' => hrc.2 w (hs'.hp.left.sub (.cons _ (.cons _ (.cons_cons _ (.cons_cons _ (.cons_cons _ (.cons_cons _ (.cons_cons _ (.cons _ (.cons_cons _ (List.nil_sublist _)))))))))))) ?_
    rintro v10 H3 ⟨rfl, rfl⟩ -
    refine TE_nil0 ?_
    refine pn_cond rfl (fun hc0 => ?_) (fun hc0 => ?_)
    · refine pn_seq ?_
      refine pn_plain [] rfl ?_
      refine TE_q rfl rfl (RD.fieldAddr (o := 0) Tryz.runUnderlying145 rfl rfl Tryz.sizeOf3 rfl) rfl ?_
      refine TE_l rfl rfl trivial rfl (RD.load (i := 0) Tryz.isAgg3 rfl rfl rfl) rfl ?_
      refine TE_store (i := 1) rfl Tryz.sizeOf3 trivial rfl rfl rfl rfl rfl rfl (.inr (by simp)) ?_
      refine TE_nil0 ?_
      refine pn_exit ?_
      (exact pn_endR (σ := Int) (HJ := fun n => [(b3, .cells #[.int .i64 n] 3 (0, 0))]) (s := 0) (l := l1) (R := R) x.1 rfl ⟨rfl, pre, x, rfl, hpf, hc0, rfl⟩ (fun w h => h.sub (.cons _ (.cons_cons _ (.cons _ (.cons _ (.cons _ (.cons _ (.cons _ (.cons _ (List.sublist_cons_self _ _)))))))))) (fun e he => .inl (by simp at he; subst he; simp)))
    · refine pn_skip ?_
      (exact pn_endR (σ := Int) (HJ := fun n => [(b3, .cells #[.int .i64 n] 3 (0, 0))]) (s := 0) (l := l1) (R := R) 0 rfl ⟨rfl, fun y hy => by rcases List.mem_append.1 hy with h | h; exact hpf y h; simp at h; subst h; exact hc0⟩ (fun w h => h.sub (.cons _ (.cons_cons _ (.cons _ (.cons _ (.cons _ (.cons _ (.cons _ (.cons _ (List.sublist_cons_self _ _)))))))))) in_keys)
  · rintro D HI' n hD ⟨rfl, hpf⟩ rfl; have hres : (0 : Int) = breaksN s := by have := find_none (f := fun n => brk n s) hpf; simp only [theRules, List.map_cons, List.map_nil] at this; unfold breaksN; rw [this]; rfl
    refine pn_seq ?_
    refine pn_plain [] rfl ?_
    refine TE_l rfl rfl trivial rfl (RD.load (i := 0) Tryz.isAgg3 rfl rfl rfl) rfl ?_
    refine TE_q rfl rfl (RD.assign rfl) rfl ?_
    refine TE_nil0 ?_
    refine pn_ret ?_
    exact pn_doneC (H1 := []) [_, _, _] _ rfl rfl rfl ⟨by rw [← hres]; rfl, rfl⟩ (List.nil_sublist _) (by simp) hD
  · rintro D HI' c pre n hD hpre ⟨rfl, p, x, rfl, hpf, hx, rfl⟩ rfl; have hres : x.1 = breaksN s := (by have := find_first (f := fun n => brk n s) _ p x hpre hpf hx; simp only [theRules, List.map_cons, List.map_nil] at this; unfold breaksN; rw [this]; rfl); refine pn_exit ?_
    refine pn_seq ?_
    refine pn_plain [] rfl ?_
    refine TE_l rfl rfl trivial rfl (RD.load (i := 0) Tryz.isAgg3 rfl rfl rfl) rfl ?_
    refine TE_q rfl rfl (RD.assign rfl) rfl ?_
    refine TE_nil0 ?_
    refine pn_ret ?_
    exact pn_doneC (H1 := []) [_, _, _] _ rfl rfl rfl ⟨by rw [← hres]; rfl, rfl⟩ (List.nil_sublist _) (by simp) hD

theorem c_refCheck (s : ByteArray) (g : Obj) (w : World) (hg : GOk g) (hs : s.size < 4294967281) (hH : Hp [(0, g)] w) : Calls Tryz.prog 48 #[.string s] w (Ret w [] fun v H1 => v = .int .i64 (err (decide (breaksN s = 0)) 40) ∧ H1 = []) := by
  refine fn_enter (args := [_]) Tryz.func48 rfl Tryz.ntmps48 rfl hH ?_
  refine pn_seq ?_
  refine pn_plain [] rfl ?_
  refine TE_q rfl rfl (RD.assign rfl) rfl ?_
  refine TE_nil0 ?_
  refine pn_seq ?_
  refine pn_seq ?_
  refine pn_plain [] rfl ?_
  refine TE_q rfl rfl (RD.move rfl) rfl ?_
  refine TE_call rfl rfl trivial Tryz.call83 rfl rfl rfl (fun w hs' => c_breaks s g w hg hs (hs'.hp.left)) ?_
  rintro v4 H1 ⟨rfl, rfl⟩ -
  refine TE_q rfl rfl (RD.neq rfl rfl) rfl ?_
  refine TE_nil0 ?_
  first | refine pn_condD rfl (fun hc0 => ?_) (fun hc0 => ?_) | refine pn_condN rfl (fun hc0 => ?_) (fun hc0 => ?_) | refine pn_cond rfl (fun hc0 => ?_) (fun hc0 => ?_)
  · refine pn_seq ?_
    refine pn_plain [] rfl ?_
    refine TE_q rfl rfl (RD.assign rfl) rfl ?_
    refine TE_nil0 ?_
    refine pn_ret ?_
    first | exact pn_done rfl rfl ⟨by rw [decide_eq_true hc0]; rfl, rfl⟩ (List.nil_sublist _) (by simp) | exact pn_done rfl rfl ⟨by rw [decide_eq_false hc0]; rfl, rfl⟩ (List.nil_sublist _) (by simp)
  · refine pn_skip ?_
    refine pn_seq ?_
    refine pn_plain [] rfl ?_
    refine TE_q rfl rfl (RD.assign rfl) rfl ?_
    refine TE_nil0 ?_
    refine pn_ret ?_
    first | exact pn_done rfl rfl ⟨by rw [decide_eq_true hc0]; rfl, rfl⟩ (List.nil_sublist _) (by simp) | exact pn_done rfl rfl ⟨by rw [decide_eq_false hc0]; rfl, rfl⟩ (List.nil_sublist _) (by simp)

end Go.Proofs.YtaakjgmehbbgfaaGreatDoor
