import Derived.Test.YthagkkmbbncclaaDoorPrt
namespace Go.Proofs.YthagkkmbbncclaaDoor
open Go Go.Mv
set_option maxRecDepth 8000
def pF : Nat → Nat
  | 0 => 64
  | 1 => 66
  | 2 => 68
  | _ => 70
def pclV (x2 x3 i : Nat) : Value := .func (.func (pF i)) #[] #[.pointer (some ⟨x2, 0, none⟩), .pointer (some ⟨x3, 0, none⟩)]
def pclM (x5 bs x2 x3 : Nat) : Mem := [(x5, .cells #[.slice (some ⟨bs, 0, none⟩) 4 4] 114 (0, 0)), (bs, .cells #[pclV x2 x3 0, pclV x2 x3 1, pclV x2 x3 2, pclV x2 x3 3] 81 (0, 0))]
theorem lt4 {i : Nat} (h : i < 4) : i = 0 ∨ i = 1 ∨ i = 2 ∨ i = 3 := by omega
theorem pcl_at {x2 x3 i : Nat} (h : i < 4) : cget #[pclV x2 x3 0, pclV x2 x3 1, pclV x2 x3 2, pclV x2 x3 3] (0 + (i : Int).toNat * 1) = some (pclV x2 x3 i) := by
  rcases lt4 h with rfl | rfl | rfl | rfl <;> rfl
theorem rng_pre {i : Nat} (h : i < 4) : (List.range i ++ [i]) <+: List.range 4 := by
  rcases lt4 h with rfl | rfl | rfl | rfl <;> decide
theorem part_call {i : Nat} (h : i < 4) : (∀ args w, (callFunc (pF i) args).run Tryd.prog w = .ok (.enter (pF i) args) w) ∧ ∀ (HX : Mem) (b4 s x2 x3 : Nat) (q : Rec) (sv : Value) (ys : List UInt8) (w : World), Rdb HX sv ys → ys.length ≤ 2199023255552 → Hp ([(x2, .cells #[.pointer (some ⟨s, 0, none⟩)] 37 (0, 0)), (x3, .cells #[.pointer (some ⟨b4, 0, none⟩)] 80 (0, 0))] ++ recM b4 (recV q).cells s sv HX) w →
    Calls Tryd.prog (pF i) #[.pointer (some ⟨x2, 0, none⟩), .pointer (some ⟨x3, 0, none⟩)] w (Ret w (keys (recM b4 (recV q).cells s sv HX)) (PartP HX s b4 ys (partD i q ys))) := by
  rcases lt4 h with rfl | rfl | rfl | rfl
  · exact ⟨Tryd.call64, fun HX b4 s x2 x3 q sv ys w h1 h2 h3 => c_part0 HX b4 s x2 x3 q sv ys w h1 h2 h3⟩
  · exact ⟨Tryd.call66, fun HX b4 s x2 x3 q sv ys w h1 h2 h3 => c_part1 HX b4 s x2 x3 q sv ys w h1 h2 h3⟩
  · exact ⟨Tryd.call68, fun HX b4 s x2 x3 q sv ys w h1 h2 h3 => c_part2 HX b4 s x2 x3 q sv ys w h1 h2 h3⟩
  · exact ⟨Tryd.call70, fun HX b4 s x2 x3 q sv ys w h1 h2 h3 => c_part3 HX b4 s x2 x3 q sv ys w h1 h2 h3⟩

theorem c_parts (s b4 : Nat) (w : World) : Calls Tryd.prog 40 #[.pointer (some ⟨s, 0, none⟩), .pointer (some ⟨b4, 0, none⟩)] w (Ret w [] fun v H1 => ∃ x5 bs x2 x3, v = .func (.func 72) #[] #[.pointer (some ⟨x5, 0, none⟩)] ∧ H1 = pclM x5 bs x2 x3 ++ [(x3, .cells #[.pointer (some ⟨b4, 0, none⟩)] 80 (0, 0)), (x2, .cells #[.pointer (some ⟨s, 0, none⟩)] 37 (0, 0))]) := by
  refine fn_enter (args := [_, _]) Tryd.func40 rfl Tryd.ntmps40 rfl (Hp.nil w) ?_
  refine pn_seq ?_
  refine pn_plain [] rfl ?_
  refine TE_box rfl rfl trivial rfl fun b2 hb2 => ?_
  refine TE_box rfl rfl trivial rfl fun b3 hb3 => ?_
  refine TE_q rfl rfl (RD.assign rfl) rfl ?_
  refine TE_nil0 ?_
  refine pn_seq ?_
  refine pn_plain [] rfl ?_
  refine TE_q rfl rfl (RD.makeFunc rfl rfl) rfl ?_
  refine TE_q rfl rfl (RD.makeFunc rfl rfl) rfl ?_
  refine TE_q rfl rfl (RD.makeFunc rfl rfl) rfl ?_
  refine TE_q rfl rfl (RD.makeFunc rfl rfl) rfl ?_
  refine TE_buildSlice (cells := #[pclV b2 b3 0, pclV b2 b3 1, pclV b2 b3 2, pclV b2 b3 3]) rfl Tryd.runUnderlying114 Tryd.sizeOf81 Tryd.zeroValue81 rfl rfl rfl (by kernel_rfl) trivial rfl fun bs hbs => ?_
  refine TE_alloc rfl Tryd.zeroValue114 trivial rfl fun b5 hb5 => ?_
  refine TE_store (i := 0) rfl Tryd.sizeOf114 trivial rfl rfl rfl rfl rfl rfl (.inl hb5) ?_
  refine TE_nil0 ?_
  refine pn_seq ?_
  refine pn_plain [] rfl ?_
  refine TE_q rfl rfl (RD.makeFunc rfl rfl) rfl ?_
  refine TE_q rfl rfl (RD.assign rfl) rfl ?_
  refine TE_nil0 ?_
  refine pn_ret ?_
  exact pn_done rfl rfl ⟨b5, bs, b2, b3, rfl, rfl⟩ (List.Sublist.refl _) (by simp [pclM]; exact ⟨hb5, hbs, hb3, hb2⟩)

theorem it_parts (x5 bs x2 x3 : Nat) : Iter Tryd.prog 72 [.pointer (some ⟨x5, 0, none⟩)] (fun i => [pclV x2 x3 i]) (pclM x5 bs x2 x3) (List.range 4) (fun _ HI' => HI' = pclM x5 bs x2 x3) := by
  intro σ l HJ G S w s0 h0 hHp hy
  refine fn_enter (args := [_, _]) Tryd.func72 rfl Tryd.ntmps72 rfl hHp ?_
  refine pn_seq ?_
  refine pn_plain [1] rfl ?_
  refine TE_l rfl rfl trivial rfl (RD.load (i := 0) Tryd.isAgg114 rfl rfl rfl) rfl ?_
  refine TE_q rfl rfl (RD.len_slice Tryd.runUnderlying114 rfl) rfl ?_
  refine TE_q rfl rfl (RD.move rfl) rfl ?_
  refine TE_nil0 ?_
  refine pn_block ?_
  refine pn_loop (σ := Nat × σ) (fun st => [(0, .func (.yield l) #[] #[]), (5, .slice (some ⟨bs, 0, none⟩) 4 4), (6, .int .i64 4), (7, .int .i64 (st.1 : Int))]) (fun st => pclM x5 bs x2 x3 ++ HJ st.2) (fun st => st.1 ≤ 4 ∧ G (List.range st.1) st.2 ∧ (∀ e ∈ HJ st.2, w.heap.size ≤ e.1 ∨ e.1 ∈ keys (pclM x5 bs x2 x3 ++ HJ s0))) (fun st => 4 - st.1) (0, s0) ⟨Nat.zero_le _, h0, fun e he => .inr (mem_keys.2 ⟨e, List.mem_append_right _ he, rfl⟩)⟩ ⟨rfl, rfl, rfl, rfl, trivial⟩ (List.Sublist.refl _) ?_
  rintro ⟨i, s⟩ ⟨hi, hG, hX⟩; dsimp only at hi hG hX ⊢
  refine pn_seq ?_
  refine pn_plain [] rfl ?_
  refine TE_q rfl rfl (RD.lss rfl rfl) rfl ?_
  refine TE_nil0 ?_
  refine pn_seq ?_
  first | refine pn_condD rfl (fun hc0 => ?_) (fun hc0 => ?_) | refine pn_condN rfl (fun hc0 => ?_) (fun hc0 => ?_) | refine pn_cond rfl (fun hc0 => ?_) (fun hc0 => ?_)
  · refine pn_skip ?_
    refine pn_seq ?_
    refine pn_block ?_
    refine pn_seq ?_
    refine pn_plain [] rfl ?_
    refine TE_q rfl rfl (RD.indexAddrS Tryd.runUnderlying114 Tryd.sizeOf81 rfl rfl (by omega) (by omega)) rfl ?_
    have hlt : i < 4 := by omega
    refine TE_l rfl rfl trivial rfl (RD.load (i := 1) Tryd.isAgg81 rfl rfl (pcl_at (by omega))) rfl ?_
    refine TE_q rfl rfl (RD.assign rfl) rfl ?_
    refine TE_nil0 ?_
    refine pn_seq ?_
    refine pn_plain [] rfl ?_
    refine TE_q rfl rfl (RD.move rfl) rfl ?_
    refine TE_q rfl rfl (RD.move rfl) rfl ?_
    refine TE_yieldT (pclM x5 bs x2 x3) (HJ s) rfl rfl rfl trivial rfl rfl rfl hX (fun W hW => hy (List.range i) i s W hG (rng_pre hlt) hW.fr (Hp.right (A := pclM x5 bs x2 x3) hW.hp.left)) ?_
    rintro v13 H2 ⟨s', rfl, ⟨rfl, hG'⟩ | ⟨rfl, hS'⟩⟩ hX'
    · refine TE_q rfl rfl (RD.not rfl) rfl ?_
      refine TE_nil0 ?_
      refine pn_condF rfl ?_
      refine pn_skip ?_
      refine pn_plain [] rfl ?_
      refine TE_q rfl rfl (RD.addI rfl rfl (by omega) (by omega)) rfl ?_
      refine TE_q rfl rfl (RD.move rfl) rfl ?_
      refine TE_nil0 ?_
      (exact pn_again (i + 1, s') ⟨by show i + 1 ≤ 4; omega, by show G (List.range (i + 1)) s'; rw [List.range_succ]; exact hG', hX'⟩ (by show 4 - (i + 1) < 4 - i; omega) ⟨rfl, rfl, rfl, rfl, trivial⟩ (List.Sublist.refl _))
    · refine TE_q rfl rfl (RD.not rfl) rfl ?_
      refine TE_nil0 ?_
      refine pn_condT rfl ?_
      refine pn_ret ?_
      exact pn_done rfl rfl ⟨s', _, rfl, .inr ⟨_, rng_pre hlt, hS', rfl⟩⟩ (List.Sublist.refl _) (fun e he => by rcases List.mem_append.1 he with h | h; exact .inl (mem_keys.2 ⟨e, List.mem_append_left _ h, rfl⟩); exact (hX' e h).symm)
  · refine pn_exit ?_
    obtain rfl : i = 4 := (by omega); exact pn_done rfl rfl ⟨s, _, rfl, .inl ⟨hG, rfl⟩⟩ (List.Sublist.refl _) (fun e he => by rcases List.mem_append.1 he with h | h; exact .inl (mem_keys.2 ⟨e, List.mem_append_left _ h, rfl⟩); exact (hX e h).symm)

end Go.Proofs.YthagkkmbbncclaaDoor
