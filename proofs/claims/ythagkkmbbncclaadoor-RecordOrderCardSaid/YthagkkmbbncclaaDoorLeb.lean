import Derived.Test.YthagkkmbbncclaaDoorProg
import Derived.Test.YthagkkmbbncclaaDoorMvB
namespace Go.Proofs.YthagkkmbbncclaaDoor
open Go Go.Mv

theorem c_lebParts (n : Int) (w : World) : Calls Tryd.prog 60 #[.int .u64 n] w (Ret w [] fun v H1 => ∃ b, v = .func (.func 86) #[] #[.pointer (some ⟨b, 0, none⟩)] ∧ H1 = [(b, .cells #[.int .u64 n] 74 (0, 0))]) := by
  refine fn_enter (args := [_]) Tryd.func60 rfl Tryd.ntmps60 rfl (Hp.nil w) ?_
  refine pn_seq ?_
  refine pn_plain [] rfl ?_
  refine TE_box rfl rfl trivial rfl fun b1 hb1 => ?_
  refine TE_q rfl rfl (RD.assign rfl) rfl ?_
  refine TE_nil0 ?_
  refine pn_seq ?_
  refine pn_plain [] rfl ?_
  refine TE_q rfl rfl (RD.makeFunc rfl rfl) rfl ?_
  refine TE_q rfl rfl (RD.assign rfl) rfl ?_
  refine TE_nil0 ?_
  refine pn_ret ?_
  exact pn_done rfl rfl ⟨b1, rfl, rfl⟩ (List.Sublist.refl _) (by simp; exact hb1)

theorem it_lebParts (n b : Nat) (hn : n < 18446744073709551616) : Iter Tryd.prog 86 [.pointer (some ⟨b, 0, none⟩)] (fun x => [bcell x]) [(b, .cells #[.int .u64 (n : Int)] 74 (0, 0))] (lebL n) (fun _ HI' => HI' = []) := by
  intro σ l HJ G S w s0 h0 hHp hy
  refine fn_enter (args := [_, _]) Tryd.func86 rfl Tryd.ntmps86 rfl hHp ?_
  refine pn_seq ?_
  refine pn_block ?_
  refine pn_loop (σ := List UInt8 × Nat × σ) (fun _ => [(0, .func (.yield l) #[] #[]), (1, .pointer (some ⟨b, 0, none⟩))]) (fun st => (b, .cells #[.int .u64 (st.2.1 : Int)] 74 (0, 0)) :: HJ st.2.2) (fun st => lebL n = st.1 ++ lebL st.2.1 ∧ G st.1 st.2.2 ∧ (∀ e ∈ HJ st.2.2, w.heap.size ≤ e.1 ∨ e.1 ∈ keys ([(b, .cells #[.int .u64 (n : Int)] 74 (0, 0))] ++ HJ s0)) ∧ st.2.1 < 18446744073709551616) (fun st => st.2.1) ([], n, s0) ⟨rfl, h0, fun e he => .inr (mem_keys.2 ⟨e, by simp [he], rfl⟩), hn⟩ ⟨rfl, rfl, trivial⟩ (List.Sublist.refl _) ?_
  rintro ⟨pre, m, s⟩ ⟨hpre, hG, hX, hm⟩; dsimp only at hpre hG hX hm ⊢
  refine pn_seq ?_
  refine pn_seq ?_
  refine pn_plain [] rfl ?_
  refine TE_l rfl rfl trivial rfl (RD.load (i := 0) Tryd.isAgg74 rfl rfl rfl) rfl ?_
  refine TE_q rfl rfl (RD.geq rfl rfl) rfl ?_
  refine TE_nil0 ?_
  first | refine pn_condD rfl (fun hc0 => ?_) (fun hc0 => ?_) | refine pn_condN rfl (fun hc0 => ?_) (fun hc0 => ?_) | refine pn_cond rfl (fun hc0 => ?_) (fun hc0 => ?_)
  · refine pn_skip ?_
    refine pn_block ?_
    refine pn_seq ?_
    refine pn_seq ?_
    refine pn_plain [3] rfl ?_
    refine TE_q rfl rfl (RD.move rfl) rfl ?_
    refine TE_l rfl rfl trivial rfl (RD.load (i := 0) Tryd.isAgg74 rfl rfl rfl) rfl ?_
    refine TE_q rfl rfl (RD.rem rfl rfl (by decide)) rfl ?_
    refine TE_q rfl rfl (RD.conv Tryd.runUnderlying74 Tryd.runUnderlying5 rfl) rfl ?_
    refine TE_q rfl rfl (RD.as (RD.add rfl rfl) (leb_more m)) rfl ?_
    refine TE_yield 1 rfl rfl trivial rfl rfl rfl rfl rfl hX (fun W hW => hy pre (UInt8.ofNat (m % 128 + 128)) s W hG ⟨lebL (m / 128), by rw [hpre, lebL_big (n := m) (by omega), List.append_assoc]; rfl⟩ hW.fr (hW.hp.sub (by simp))) ?_
    rintro v10 H5 ⟨s', rfl, ⟨rfl, hG'⟩ | ⟨rfl, hS'⟩⟩ hX'
    all_goals refine TE_q rfl rfl (RD.not rfl) rfl ?_
    all_goals refine TE_nil0 ?_
    all_goals first
      | (
          refine pn_condT rfl ?_
          refine pn_ret ?_
          exact pn_done rfl rfl ⟨s', [], rfl, .inr ⟨pre ++ [UInt8.ofNat (m % 128 + 128)], ⟨lebL (m / 128), by rw [hpre, lebL_big (n := m) (by omega), List.append_assoc]; rfl⟩, hS', rfl⟩⟩ (List.sublist_cons_self _ _) (fun e he => (hX' e he).symm))
      | (
          refine pn_condF rfl ?_
          refine pn_skip ?_
          refine pn_plain [] rfl ?_
          refine TE_l rfl rfl trivial rfl (RD.load (i := 0) Tryd.isAgg74 rfl rfl rfl) rfl ?_
          refine TE_q rfl rfl (RD.as (RD.shr rfl rfl (by decide)) (leb_shr m)) rfl ?_
          refine TE_store (i := 0) rfl Tryd.sizeOf74 trivial rfl rfl rfl rfl rfl rfl (.inr (by simp)) ?_
          refine TE_nil0 ?_
          (exact pn_again (pre ++ [UInt8.ofNat (m % 128 + 128)], m / 128, s') ⟨by rw [hpre, lebL_big (n := m) (by omega), List.append_assoc]; rfl, hG', hX', by show m / 128 < 18446744073709551616; omega⟩ (by show m / 128 < m; omega) ⟨rfl, rfl, trivial⟩ (List.Sublist.refl _)))
      | (
          first | refine pn_condD rfl (fun hc1 => ?_) (fun hc1 => ?_) | refine pn_condN rfl (fun hc1 => ?_) (fun hc1 => ?_) | refine pn_cond rfl (fun hc1 => ?_) (fun hc1 => ?_)
          · refine pn_ret ?_
            exact pn_done rfl rfl ⟨s', [], rfl, .inr ⟨pre ++ [UInt8.ofNat (m % 128 + 128)], ⟨lebL (m / 128), by rw [hpre, lebL_big (n := m) (by omega), List.append_assoc]; rfl⟩, hS', rfl⟩⟩ (List.sublist_cons_self _ _) (fun e he => (hX' e he).symm)
          · refine pn_skip ?_
            refine pn_plain [] rfl ?_
            refine TE_l rfl rfl trivial rfl (RD.load (i := 0) Tryd.isAgg74 rfl rfl rfl) rfl ?_
            refine TE_q rfl rfl (RD.as (RD.shr rfl rfl (by decide)) (leb_shr m)) rfl ?_
            refine TE_store (i := 0) rfl Tryd.sizeOf74 trivial rfl rfl rfl rfl rfl rfl (.inr (by simp)) ?_
            refine TE_nil0 ?_
            (exact pn_again (pre ++ [UInt8.ofNat (m % 128 + 128)], m / 128, s') ⟨by rw [hpre, lebL_big (n := m) (by omega), List.append_assoc]; rfl, hG', hX', by show m / 128 < 18446744073709551616; omega⟩ (by show m / 128 < m; omega) ⟨rfl, rfl, trivial⟩ (List.Sublist.refl _)))
  · refine pn_exit ?_
    refine pn_plain [2] rfl ?_
    refine TE_q rfl rfl (RD.move rfl) rfl ?_
    refine TE_l rfl rfl trivial rfl (RD.load (i := 0) Tryd.isAgg74 rfl rfl rfl) rfl ?_
    refine TE_q rfl rfl (RD.as (RD.conv Tryd.runUnderlying74 Tryd.runUnderlying5 rfl) (leb_last (by omega))) rfl ?_
    refine TE_yield 1 rfl rfl trivial rfl rfl rfl rfl rfl hX (fun W hW => hy pre (UInt8.ofNat m) s W hG (by rw [hpre, lebL_small (n := m) (by omega)]; exact List.prefix_refl _) hW.fr (hW.hp.sub (by simp))) ?_
    rintro v17 H3 ⟨s', rfl, hcase⟩ hX'
    refine TE_nil0 ?_
    (rw [lebL_small (n := m) (by omega)] at hpre; rcases hcase with ⟨_, hG'⟩ | ⟨_, hS'⟩ <;> first | exact pn_done rfl rfl ⟨s', [], rfl, .inl ⟨hpre ▸ hG', rfl⟩⟩ (List.sublist_cons_self _ _) (fun e he => (hX' e he).symm) | exact pn_done rfl rfl ⟨s', [], rfl, .inr ⟨_, hpre ▸ List.prefix_refl _, hS', rfl⟩⟩ (List.sublist_cons_self _ _) (fun e he => (hX' e he).symm))

end Go.Proofs.YthagkkmbbncclaaDoor
