import Derived.Test.YthagkkmbbncclaaDoorSnk
import Derived.Test.YthagkkmbbncclaaDoorMvB
namespace Go.Proofs.YthagkkmbbncclaaDoor
open Go Go.Mv
set_option maxRecDepth 4000
theorem c_clone (H : Mem) (xv : Value) (ys : List UInt8) (w : World) (hH : Hp H w) (hb : BytesIn H xv ys) (hlen : ys.length ≤ 2199023255552) : Calls Tryd.prog 32 #[xv] w (Ret w [] fun v H1 => RetB 5 v H1 ys) := by
  have hb0 := hb
  obtain ⟨a, c, rfl, hb⟩ := hb
  refine fn_enter (args := [_]) Tryd.func32 rfl Tryd.ntmps32 rfl hH ?_
  refine pn_seq ?_
  refine pn_plain [] rfl ?_
  refine TE_q rfl rfl (RD.assign rfl) rfl ?_
  refine TE_nil0 ?_
  refine pn_seq ?_
  refine pn_seq ?_
  refine pn_plain [] rfl ?_
  refine TE_q rfl rfl (RD.move rfl) rfl ?_
  refine TE_q rfl rfl (RD.sl_eql_nil Tryd.runUnderlying35 rfl rfl) rfl ?_
  refine TE_nil0 ?_
  rcases a with _ | ad
  · have hy : ys = [] := Classical.byContradiction fun h => by obtain ⟨_, h', _⟩ := hb h; cases h'
    subst hy
    refine pn_condT rfl ?_
    refine pn_seq ?_
    refine pn_plain [] rfl ?_
    refine TE_q rfl rfl (RD.assign rfl) rfl ?_
    refine TE_nil0 ?_
    refine pn_ret ?_
    exact pn_done rfl rfl (.inr ⟨rfl, rfl, rfl⟩) (List.nil_sublist _) (by simp)
  · refine pn_condF rfl ?_
    refine pn_skip ?_
    refine pn_seq ?_
    refine pn_plain [] rfl ?_
    refine TE_buildSlice0 rfl Tryd.runUnderlying35 Tryd.sizeOf5 trivial rfl fun b5 hb5 => ?_
    refine TE_q rfl rfl (RD.move rfl) rfl ?_
    by_cases hy : ys = []
    · subst hy
      refine TE_l rfl rfl trivial rfl (RD.append0 Tryd.underlying35 elByte rfl rfl (Nat.zero_le _)) rfl ?_
      refine TE_q rfl rfl (RD.assign rfl) rfl ?_
      refine TE_nil0 ?_
      refine pn_ret ?_
      exact pn_done rfl rfl (.inl ⟨b5, 0, [], rfl, rfl, Nat.zero_le _, by decide, rfl⟩) (List.Sublist.cons_cons _ (List.nil_sublist _)) (by simp; exact hb5)
    · refine TE_appendS (i := 0) (n := 0) (xs := []) (tl := []) (ys := bcells ys) rfl rfl trivial rfl Tryd.underlying35 elByte rfl rfl rfl rfl rfl rfl rfl (Nat.le_refl _) (by decide) (hb0.src hy (fun w hw => hw.left.sub (List.sublist_cons_self _ _))) (by simp) (bcells_one _) (List.length_pos_iff.2 hy) (maxLen_ge (by omega)) (by omega) (.inl hb5) ?_
      intro b' cap' tl' h1 h2 h3 h4
      refine TE_q rfl rfl (RD.assign rfl) rfl ?_
      refine TE_nil0 ?_
      refine pn_ret ?_
      exact pn_done rfl rfl (.inl ⟨b', cap', tl', by show Value.slice _ (0 + ys.length) _ = _; rw [Nat.zero_add], rfl, by omega, h2, by simpa using h3⟩) (List.Sublist.cons_cons _ (List.nil_sublist _)) (by simp; rcases h4 with rfl | h4; exact hb5; exact h4)

theorem c_sinkAll (s : Nat) (l : List UInt8) (st : SnkS) (w : World) (hok : SnkOk l st) (hl : l.length ≤ 2199023255552) (hw : Hp (snkM 69 5 s l st) w) : Calls Tryd.prog 38 #[.pointer (some ⟨s, 0, none⟩)] w (Ret w [] fun v H1 => RetB 5 v H1 l) := by
  refine fn_enter (args := [_]) Tryd.func38 rfl Tryd.ntmps38 rfl hw ?_
  refine pn_seq ?_
  refine pn_plain [] rfl ?_
  refine TE_q rfl rfl (RD.assign rfl) rfl ?_
  refine TE_nil0 ?_
  refine pn_seq ?_
  refine pn_seq ?_
  refine pn_plain [] rfl ?_
  refine TE_q rfl rfl (RD.move rfl) rfl ?_
  refine TE_q rfl rfl (RD.ptr_eql_nil Tryd.runUnderlying70 rfl rfl) rfl ?_
  refine TE_nil0 ?_
  refine pn_condF rfl ?_
  refine pn_skip ?_
  refine pn_seq ?_
  refine pn_plain [] rfl ?_
  refine TE_q rfl rfl (RD.move rfl) rfl ?_
  refine TE_q rfl rfl (RD.nilCheckP rfl) rfl ?_
  refine TE_q rfl rfl (RD.fieldAddr (o := 0) Tryd.runUnderlying69 rfl rfl Tryd.sizeOf35 rfl) rfl ?_
  rcases st with _ | ⟨b, cap, tl⟩
  · obtain rfl : l = [] := hok
    refine TE_l rfl rfl trivial rfl (RD.load (i := 0) Tryd.isAgg35 rfl rfl rfl) rfl ?_
    refine TE_call rfl rfl trivial Tryd.call32 rfl rfl rfl (fun w hs => c_clone [] _ [] w (Hp.nil _) BytesIn.nil (by decide)) ?_
    rintro v9 H4 hr hn
    refine TE_q rfl rfl (RD.assign rfl) rfl ?_
    refine TE_nil0 ?_
    refine pn_ret ?_
    exact pn_done rfl rfl hr (List.sublist_append_left _ _) (fun e he => .inr (hn e he))
  · refine TE_l rfl rfl trivial rfl (RD.load (i := 0) Tryd.isAgg35 rfl rfl rfl) rfl ?_
    refine TE_call rfl rfl trivial Tryd.call32 rfl rfl rfl (fun w hs => c_clone _ _ l w hs.hp (BytesIn.blk (i := 1) (tl := tl) rfl) hl) ?_
    rintro v9 H4 hr hn
    refine TE_q rfl rfl (RD.assign rfl) rfl ?_
    refine TE_nil0 ?_
    refine pn_ret ?_
    exact pn_done rfl rfl hr (List.sublist_append_left _ _) (fun e he => .inr (hn e he))

theorem c_sinkRaw (HX : Mem) (s : Nat) (l ys : List UInt8) (st : SnkS) (xv : Value) (w : World) (hok : SnkOk l st) (hl : l.length ≤ 1099511627776) (hy1 : ys.length ≤ 1099511627776) (hb : BytesIn HX xv ys) (hw : Hp (snkM 69 5 s l st ++ HX) w) : Calls Tryd.prog 34 #[(.pointer (some ⟨s, 0, none⟩)), xv] w (Ret w (keys (snkM 69 5 s l st)) fun v H1 => ∃ st', v = (.pointer (some ⟨s, 0, none⟩)) ∧ H1 = snkM 69 5 s (l ++ ys) st' ∧ SnkOk (l ++ ys) st' ∧ (st.isSome → st'.isSome) ∧ (ys ≠ [] → st'.isSome)) := by
  have hb0 := hb
  obtain ⟨a, c, rfl, hb⟩ := hb
  refine fn_enter (args := [_, _]) Tryd.func34 rfl Tryd.ntmps34 rfl hw ?_
  refine pn_seq ?_
  refine pn_plain [] rfl ?_
  refine TE_q rfl rfl (RD.assign rfl) rfl ?_
  refine TE_nil0 ?_
  refine pn_seq ?_
  refine pn_seq ?_
  refine pn_plain [] rfl ?_
  refine TE_q rfl rfl (RD.move rfl) rfl ?_
  refine TE_q rfl rfl (RD.ptr_neq_nil Tryd.runUnderlying70 rfl rfl) rfl ?_
  refine TE_nil0 ?_
  refine pn_condT rfl ?_
  refine pn_plain [] rfl ?_
  refine TE_q rfl rfl (RD.move rfl) rfl ?_
  refine TE_q rfl rfl (RD.move rfl) rfl ?_
  refine TE_q rfl rfl (RD.nilCheckP rfl) rfl ?_
  refine TE_q rfl rfl (RD.fieldAddr (o := 0) Tryd.runUnderlying69 rfl rfl Tryd.sizeOf35 rfl) rfl ?_
  by_cases hy : ys = []
  · subst hy
    rcases st with _ | ⟨b, cap, tl⟩
    · obtain rfl : l = [] := hok
      refine TE_l rfl rfl trivial rfl (RD.load (i := 0) Tryd.isAgg35 rfl rfl rfl) rfl ?_
      refine TE_q rfl rfl (RD.move rfl) rfl ?_
      refine TE_l rfl rfl trivial rfl (RD.append0 Tryd.underlying35 elByte rfl rfl (Nat.zero_le _)) rfl ?_
      refine TE_q rfl rfl (RD.nilCheckP rfl) rfl ?_
      refine TE_q rfl rfl (RD.fieldAddr (o := 0) Tryd.runUnderlying69 rfl rfl Tryd.sizeOf35 rfl) rfl ?_
      refine TE_store (i := 0) rfl Tryd.sizeOf35 trivial rfl rfl rfl rfl rfl rfl (.inr (by simp [snkM])) ?_
      refine TE_nil0 ?_
      refine pn_seq ?_
      refine pn_plain [] rfl ?_
      refine TE_q rfl rfl (RD.move rfl) rfl ?_
      refine TE_q rfl rfl (RD.assign rfl) rfl ?_
      refine TE_nil0 ?_
      refine pn_ret ?_
      exact pn_done rfl rfl ⟨none, rfl, rfl, rfl, by simp, by simp⟩ (List.sublist_append_left [_] _) (snk_all0 (fun k => k ∈ keys (snkM 69 5 s [] none) ∨ w.heap.size ≤ k) (snk_s (fun k => k ∈ keys (snkM 69 5 s [] none) ∨ w.heap.size ≤ k) in_keys))
    · refine TE_l rfl rfl trivial rfl (RD.load (i := 0) Tryd.isAgg35 rfl rfl rfl) rfl ?_
      refine TE_q rfl rfl (RD.move rfl) rfl ?_
      refine TE_l rfl rfl trivial rfl (RD.append0 Tryd.underlying35 elByte rfl rfl hok.1) rfl ?_
      refine TE_q rfl rfl (RD.nilCheckP rfl) rfl ?_
      refine TE_q rfl rfl (RD.fieldAddr (o := 0) Tryd.runUnderlying69 rfl rfl Tryd.sizeOf35 rfl) rfl ?_
      refine TE_store (i := 0) rfl Tryd.sizeOf35 trivial rfl rfl rfl rfl rfl rfl (.inr (by simp [snkM])) ?_
      refine TE_nil0 ?_
      refine pn_seq ?_
      refine pn_plain [] rfl ?_
      refine TE_q rfl rfl (RD.move rfl) rfl ?_
      refine TE_q rfl rfl (RD.assign rfl) rfl ?_
      refine TE_nil0 ?_
      refine pn_ret ?_
      exact pn_done rfl rfl ⟨some (b, cap, tl), rfl, by rw [List.append_nil]; rfl, by rw [List.append_nil]; exact hok, by simp, by simp⟩ (List.sublist_append_left [_, _] _) (snk_all (fun k => k ∈ keys (snkM 69 5 s l (some (b, cap, tl))) ∨ w.heap.size ≤ k) (snk_s (fun k => k ∈ keys (snkM 69 5 s l (some (b, cap, tl))) ∨ w.heap.size ≤ k) in_keys) (snk_b (fun k => k ∈ keys (snkM 69 5 s l (some (b, cap, tl))) ∨ w.heap.size ≤ k) in_keys))
  · rcases st with _ | ⟨b, cap, tl⟩
    · obtain rfl : l = [] := hok
      refine TE_l rfl rfl trivial rfl (RD.load (i := 0) Tryd.isAgg35 rfl rfl rfl) rfl ?_
      refine TE_q rfl rfl (RD.move rfl) rfl ?_
      refine TE_appendN (ys := bcells ys) rfl rfl trivial rfl Tryd.underlying35 elByte rfl rfl rfl rfl (hb0.src hy (fun w hw => hw.left.right)) (by simp) (bcells_one _) (List.length_pos_iff.2 hy) (maxLen_ge (by omega)) (by omega) ?_
      intro b' cap' tl' h1 h2 h3 h4
      refine TE_q rfl rfl (RD.nilCheckP rfl) rfl ?_
      refine TE_q rfl rfl (RD.fieldAddr (o := 0) Tryd.runUnderlying69 rfl rfl Tryd.sizeOf35 rfl) rfl ?_
      refine TE_store (i := 1) rfl Tryd.sizeOf35 trivial rfl rfl rfl rfl rfl rfl (.inr (by simp [snkM])) ?_
      refine TE_nil0 ?_
      refine pn_seq ?_
      refine pn_plain [] rfl ?_
      refine TE_q rfl rfl (RD.move rfl) rfl ?_
      refine TE_q rfl rfl (RD.assign rfl) rfl ?_
      refine TE_nil0 ?_
      refine pn_ret ?_
      refine pn_pickT [1, 0] [_, _] _ rfl rfl rfl ?_
      exact pn_done rfl rfl ⟨some (b', cap', tl'), rfl, rfl, SnkOk_app (l := []) (by simpa using h1) h2 h3, by simp, by simp⟩ (List.sublist_append_left [_, _] _) (snk_all (fun k => k ∈ keys (snkM 69 5 s [] none) ∨ w.heap.size ≤ k) (snk_s (fun k => k ∈ keys (snkM 69 5 s [] none) ∨ w.heap.size ≤ k) in_keys) (.inr h4))
    · refine TE_l rfl rfl trivial rfl (RD.load (i := 0) Tryd.isAgg35 rfl rfl rfl) rfl ?_
      refine TE_q rfl rfl (RD.move rfl) rfl ?_
      refine TE_appendS (i := 1) (n := l.length) (xs := bcells l) (tl := tl) (ys := bcells ys) rfl rfl trivial rfl Tryd.underlying35 elByte rfl rfl rfl rfl rfl (by simp) hok.2.2 hok.1 hok.2.1 (hb0.src hy (fun w hw => hw.left.right)) (by simp) (bcells_one _) (List.length_pos_iff.2 hy) (maxLen_ge (by omega)) (by omega) (.inr (by simp [snkM])) ?_
      intro b' cap' tl' h1 h2 h3 h4
      refine TE_q rfl rfl (RD.nilCheckP rfl) rfl ?_
      refine TE_q rfl rfl (RD.fieldAddr (o := 0) Tryd.runUnderlying69 rfl rfl Tryd.sizeOf35 rfl) rfl ?_
      refine TE_store (i := 0) rfl Tryd.sizeOf35 trivial rfl rfl rfl rfl rfl rfl (.inr (by simp [snkM])) ?_
      refine TE_nil0 ?_
      refine pn_seq ?_
      refine pn_plain [] rfl ?_
      refine TE_q rfl rfl (RD.move rfl) rfl ?_
      refine TE_q rfl rfl (RD.assign rfl) rfl ?_
      refine TE_nil0 ?_
      refine pn_ret ?_
      exact pn_done rfl rfl ⟨some (b', cap', tl'), rfl, rfl, SnkOk_app h1 h2 h3, by simp, by simp⟩ (by rw [snk_app]; exact List.sublist_append_left [_, _] _) (snk_all (fun k => k ∈ keys (snkM 69 5 s l (some (b, cap, tl))) ∨ w.heap.size ≤ k) (snk_s (fun k => k ∈ keys (snkM 69 5 s l (some (b, cap, tl))) ∨ w.heap.size ≤ k) in_keys) (h4.elim (fun h => h ▸ snk_b (fun k => k ∈ keys (snkM 69 5 s l (some (b, cap, tl))) ∨ w.heap.size ≤ k) in_keys) .inr))

end Go.Proofs.YthagkkmbbncclaaDoor
