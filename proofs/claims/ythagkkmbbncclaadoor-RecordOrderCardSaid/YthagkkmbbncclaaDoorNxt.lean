import Derived.Test.YthagkkmbbncclaaDoorSrc
namespace Go.Proofs.YthagkkmbbncclaaDoor
open Go Go.Mv
set_option maxRecDepth 8000
theorem it_next (HX : Mem) (x1 s : Nat) (a : Option Addr) (n c : Nat) (ys : List UInt8) (hb : Rdb HX (.slice a n c) ys) (hlen : ys.length ≤ 4611686018427387904) : Iter Tryd.prog 114 [.pointer (some ⟨x1, 0, none⟩)] (fun x => [bcell x]) ((x1, .cells #[.pointer (some ⟨s, 0, none⟩)] 37 (0, 0)) :: srcM s (.slice a n c) HX) ys (fun pre HI' => ∃ a' n' c', HI' = srcM s (.slice a' n' c') HX ∧ Rdb HX (.slice a' n' c') (ys.drop pre.length)) := by
  intro σ l HJ G S w s0 h0 hHp hy
  refine fn_enter (args := [_, _]) Tryd.func114 rfl Tryd.ntmps114 rfl hHp ?_
  refine pn_block ?_
  refine pn_loop (σ := List UInt8 × List UInt8 × Option Addr × Nat × Nat × σ) (fun _ => [(0, .func (.yield l) #[] #[]), (1, .pointer (some ⟨x1, 0, none⟩))]) (fun x => (x1, .cells #[.pointer (some ⟨s, 0, none⟩)] 37 (0, 0)) :: srcM s (.slice x.2.2.1 x.2.2.2.1 x.2.2.2.2.1) (HX ++ HJ x.2.2.2.2.2)) (fun x => ys = x.1 ++ x.2.1 ∧ Rdb HX (.slice x.2.2.1 x.2.2.2.1 x.2.2.2.2.1) x.2.1 ∧ G x.1 x.2.2.2.2.2 ∧ (∀ e ∈ HJ x.2.2.2.2.2, w.heap.size ≤ e.1 ∨ e.1 ∈ keys (((x1, .cells #[.pointer (some ⟨s, 0, none⟩)] 37 (0, 0)) :: srcM s (.slice a n c) HX) ++ HJ s0))) (fun x => x.2.1.length) ([], ys, a, n, c, s0) ⟨rfl, hb, h0, fun e he => .inr (mem_keys.2 ⟨e, by simp [he], rfl⟩)⟩ ⟨rfl, rfl, trivial⟩ (List.Sublist.refl _) ?_
  rintro ⟨pre, rest, a', n', c', st⟩ ⟨hpre, hb', hG, hX⟩; dsimp only at hpre hb' hG hX ⊢; have hXs : ∀ e ∈ srcM s (.slice a' n' c') HX, e.1 ∈ keys (((x1, .cells #[.pointer (some ⟨s, 0, none⟩)] 37 (0, 0)) :: srcM s (.slice a n c) HX) ++ HJ s0) ∨ w.heap.size ≤ e.1 := (allC (Q := fun k => k ∈ keys (((x1, .cells #[.pointer (some ⟨s, 0, none⟩)] 37 (0, 0)) :: srcM s (.slice a n c) HX) ++ HJ s0) ∨ w.heap.size ≤ k) (.inl (by simp [srcM])) (fun e he => .inl (mem_keys.2 ⟨e, by simp [srcM, he], rfl⟩))); rcases rest with _ | ⟨ch, r⟩
  · refine pn_seq ?_
    refine pn_seq ?_
    refine pn_plain [4] rfl ?_
    refine TE_l rfl rfl trivial rfl (RD.load (i := 0) Tryd.isAgg37 rfl rfl rfl) rfl ?_
    refine TE_q rfl rfl (RD.nilCheckP rfl) rfl ?_
    refine TE_q rfl rfl (RD.fieldAddr (o := 0) Tryd.runUnderlying67 rfl rfl Tryd.sizeOf35 rfl) rfl ?_
    refine TE_l rfl rfl trivial rfl (RD.load (i := 1) Tryd.isAgg35 rfl rfl rfl) rfl ?_
    refine TE_q rfl rfl (RD.lenR Tryd.runUnderlying35 rfl hb') rfl ?_
    refine TE_q rfl rfl (RD.gtr rfl rfl) rfl ?_
    refine TE_nil0 ?_
    refine pn_condF rfl ?_
    refine pn_exit ?_
    (rw [List.append_nil] at hpre; subst hpre; exact pn_done rfl rfl ⟨st, srcM s (.slice a' n' c') HX, rfl, .inl ⟨hG, a', n', c', rfl, by simpa using hb'⟩⟩ (List.sublist_cons_self _ _) (allA (Q := fun k => k ∈ _ ∨ _ ≤ k) hXs (fun e he => (hX e he).symm)))
  · obtain ⟨bb, off, cap, hsl, hcap, hcell⟩ := hb'.cons; simp only [Value.slice.injEq] at hsl; obtain ⟨rfl, rfl, rfl⟩ := hsl; have hlr : r.length + 1 ≤ 4611686018427387904 := (by have := congrArg List.length hpre; simp only [List.length_append, List.length_cons] at this; omega); have hcut := hb'.cut (l := 1) (by simp); have hpx : (pre ++ [ch]) <+: ys := ⟨r, by rw [hpre, List.append_assoc]; rfl⟩; have hdr : ys.drop (pre ++ [ch]).length = r := (by rw [hpre, show pre ++ ch :: r = (pre ++ [ch]) ++ r from by simp, List.drop_left])
    refine pn_seq ?_
    refine pn_seq ?_
    refine pn_plain [4] rfl ?_
    refine TE_l rfl rfl trivial rfl (RD.load (i := 0) Tryd.isAgg37 rfl rfl rfl) rfl ?_
    refine TE_q rfl rfl (RD.nilCheckP rfl) rfl ?_
    refine TE_q rfl rfl (RD.fieldAddr (o := 0) Tryd.runUnderlying67 rfl rfl Tryd.sizeOf35 rfl) rfl ?_
    refine TE_l rfl rfl trivial rfl (RD.load (i := 1) Tryd.isAgg35 rfl rfl rfl) rfl ?_
    refine TE_q rfl rfl (RD.lenR Tryd.runUnderlying35 rfl hb') rfl ?_
    refine TE_q rfl rfl (RD.as (v := .bool true) (RD.gtr rfl rfl) (by rw [decide_eq_true (by simp only [List.length_cons]; omega)])) rfl ?_
    refine TE_nil0 ?_
    refine pn_condT rfl ?_
    refine pn_skip ?_
    refine pn_block ?_
    refine pn_seq ?_
    refine pn_plain [] rfl ?_
    refine TE_l rfl rfl trivial rfl (RD.load (i := 0) Tryd.isAgg37 rfl rfl rfl) rfl ?_
    refine TE_q rfl rfl (RD.nilCheckP rfl) rfl ?_
    refine TE_q rfl rfl (RD.fieldAddr (o := 0) Tryd.runUnderlying67 rfl rfl Tryd.sizeOf35 rfl) rfl ?_
    refine TE_l rfl rfl trivial rfl (RD.load (i := 1) Tryd.isAgg35 rfl rfl rfl) rfl ?_
    refine TE_q rfl rfl (RD.indexAddrS Tryd.runUnderlying35 Tryd.sizeOf5 rfl rfl (by omega) (by omega)) rfl ?_
    refine TE_l rfl rfl trivial rfl (RD.loadC Tryd.isAgg5 rfl (fun w hw => hcell w (hw.left.sub (.cons _ (.cons _ (List.sublist_append_left _ _)))))) rfl ?_
    refine TE_q rfl rfl (RD.assign rfl) rfl ?_
    refine TE_nil0 ?_
    refine pn_seq ?_
    refine pn_drawT [0, 1] [1] [0] [_, _] (HX ++ HJ st) rfl rfl (by kernel_rfl) (by kernel_rfl) rfl rfl ?_
    refine TE_q rfl rfl (RD.load (i := 0) Tryd.isAgg37 rfl rfl rfl) rfl ?_
    refine TE_q rfl rfl (RD.load (i := 0) Tryd.isAgg37 rfl rfl rfl) rfl ?_
    refine TE_q rfl rfl (RD.nilCheckP rfl) rfl ?_
    refine TE_q rfl rfl (RD.fieldAddr (o := 0) Tryd.runUnderlying67 rfl rfl Tryd.sizeOf35 rfl) rfl ?_
    refine TE_l rfl rfl trivial rfl (RD.load (i := 0) Tryd.isAgg35 rfl rfl rfl) rfl ?_
    refine TE_q rfl rfl (RD.sliceR (l := 1) (h := r.length + 1) Tryd.runUnderlying35 Tryd.sizeOf5 rfl hb' ⟨_, rfl⟩ (by simp) (by omega) (by simp)) rfl ?_
    refine TE_q rfl rfl (RD.nilCheckP rfl) rfl ?_
    refine TE_q rfl rfl (RD.fieldAddr (o := 0) Tryd.runUnderlying67 rfl rfl Tryd.sizeOf35 rfl) rfl ?_
    refine TE_store (i := 0) rfl Tryd.sizeOf35 trivial rfl rfl rfl rfl rfl rfl (.inr (by simp [srcM])) ?_
    refine TE_nil ?_
    refine pn_seq ?_
    refine pn_pickT [1, 0] [_, _] (HX ++ HJ st) rfl rfl rfl ?_
    refine pn_plain [] rfl ?_
    refine TE_q rfl rfl (RD.move rfl) rfl ?_
    refine TE_q rfl rfl (RD.move rfl) rfl ?_
    refine TE_yieldT (_ :: _ :: HX) (HJ st) rfl rfl rfl trivial rfl rfl rfl hX (fun W hW => hy pre ch st W hG hpx hW.fr (hW.hp.left.sub (.cons _ (.cons _ (List.sublist_append_right _ _))))) ?_
    rintro v26 H2 ⟨s', rfl, ⟨rfl, hG'⟩ | ⟨rfl, hS'⟩⟩ hX'
    all_goals refine TE_q rfl rfl (RD.not rfl) rfl ?_
    all_goals refine TE_nil0 ?_
    all_goals first
      | (
          refine pn_condT rfl ?_
          refine pn_ret ?_
          exact pn_done rfl rfl ⟨s', srcM s (subV 1 (r.length + 1) (.slice (some ⟨bb, off, none⟩) (r.length + 1) c')) HX, rfl, .inr ⟨pre ++ [ch], hpx, hS', _, _, _, rfl, by rw [hdr]; exact hcut⟩⟩ (List.sublist_cons_self _ _) (allA (Q := fun k => k ∈ _ ∨ _ ≤ k) (allC (Q := fun k => k ∈ _ ∨ _ ≤ k) (hXs (s, _) List.mem_cons_self) (fun e he => hXs e (List.mem_cons_of_mem _ he))) (where_ hX')))
      | (
          refine pn_condF rfl ?_
          refine pn_skip ?_
          (exact pn_again (pre ++ [ch], r, _, _, _, s') ⟨by rw [hpre, List.append_assoc]; rfl, hcut, hG', hX'⟩ (by show r.length < (ch :: r).length; simp) ⟨rfl, rfl, trivial⟩ (List.Sublist.refl _)))
      | (
          first | refine pn_condD rfl (fun hc1 => ?_) (fun hc1 => ?_) | refine pn_condN rfl (fun hc1 => ?_) (fun hc1 => ?_) | refine pn_cond rfl (fun hc1 => ?_) (fun hc1 => ?_)
          · refine pn_ret ?_
            exact pn_done rfl rfl ⟨s', srcM s (subV 1 (r.length + 1) (.slice (some ⟨bb, off, none⟩) (r.length + 1) c')) HX, rfl, .inr ⟨pre ++ [ch], hpx, hS', _, _, _, rfl, by rw [hdr]; exact hcut⟩⟩ (List.sublist_cons_self _ _) (allA (Q := fun k => k ∈ _ ∨ _ ≤ k) (allC (Q := fun k => k ∈ _ ∨ _ ≤ k) (hXs (s, _) List.mem_cons_self) (fun e he => hXs e (List.mem_cons_of_mem _ he))) (where_ hX'))
          · refine pn_skip ?_
            (exact pn_again (pre ++ [ch], r, _, _, _, s') ⟨by rw [hpre, List.append_assoc]; rfl, hcut, hG', hX'⟩ (by show r.length < (ch :: r).length; simp) ⟨rfl, rfl, trivial⟩ (List.Sublist.refl _)))

end Go.Proofs.YthagkkmbbncclaaDoor
