import Derived.Test.YthagkkmbbncclaaDoorDcd
import Derived.Test.YthagkkmbbncclaaDoorMvC
namespace Go.Proofs.YthagkkmbbncclaaDoor
open Go Go.Mv
set_option maxRecDepth 8000
def srcM (s : Nat) (v : Value) (HX : Mem) : Mem := (s, .cells #[v] 67 (0, 0)) :: HX
theorem in_src {s n : Nat} {v v' : Value} {HX : Mem} : ∀ e ∈ srcM s v HX, e.1 ∈ keys (srcM s v' HX) ∨ n ≤ e.1 := fun e he => .inl (show e.1 ∈ keys (srcM s v HX) from mem_keys.2 ⟨e, he, rfl⟩)
theorem build_src (a : Option Addr) (n c : Nat) (w : World) : (Instr.build 67 #[(0, .slice a n c)]).run Tryd.prog w = .ok (.agg #[.slice a n c]) w := by
  simp [Instr.build, Tryd.zeroValue67, Tryd.runUnderlying67, Tryd.sizeOf35, Value.cells, Instr.fill]

theorem c_from (HX : Mem) (xv : Value) (ys : List UInt8) (w : World) (hb : BytesIn HX xv ys) (hlen : ys.length ≤ 2199023255552) (hH : Hp HX w) : Calls Tryd.prog 14 #[xv] w (Ret w [] fun v H1 => ∃ s sv H2, v = .pointer (some ⟨s, 0, none⟩) ∧ H1 = srcM s sv H2 ∧ Rdb H2 sv ys) := by
  refine fn_enter (args := [_]) Tryd.func14 rfl Tryd.ntmps14 rfl hH ?_
  refine pn_seq ?_
  refine pn_plain [] rfl ?_
  refine TE_q rfl rfl (RD.assign rfl) rfl ?_
  refine TE_nil0 ?_
  refine pn_seq ?_
  refine pn_plain [] rfl ?_
  refine TE_q rfl rfl (RD.move rfl) rfl ?_
  refine TE_call rfl rfl trivial Tryd.call32 rfl rfl rfl (fun w hs' => c_clone HX xv ys w hs'.hp.left hb hlen) ?_
  rintro v4 H1 hr hX
  obtain ⟨a, c, rfl⟩ := hr.rdb.shape
  refine TE_q rfl rfl (RD.build rfl (build_src _ _ _)) rfl ?_
  refine TE_box rfl rfl trivial rfl fun b6 hb6 => ?_
  refine TE_q rfl rfl (RD.assign rfl) rfl ?_
  refine TE_nil0 ?_
  refine pn_ret ?_
  exact pn_done rfl rfl ⟨b6, _, H1, rfl, rfl, hr.rdb⟩ (List.Sublist.cons_cons _ (List.sublist_append_left _ _)) (allC (Q := fun k => k ∈ _ ∨ _ ≤ k) (.inr hb6) (fun e he => .inr (hX e he)))

theorem c_back (s e : Nat) (a : Option Addr) (n c : Nat) (w : World) (hH : Hp [(s, .cells #[.slice a n c] 67 (0, 0))] w) : Calls Tryd.prog 87 #[.pointer (some ⟨s, 0, none⟩), .pointer (some ⟨e, 0, none⟩)] w (Ret w [] fun v H1 => ∃ x2 x3 x5, v = .func (.func 113) #[] #[.pointer (some ⟨x3, 0, none⟩), .pointer (some ⟨x5, 0, none⟩), .pointer (some ⟨x2, 0, none⟩)] ∧ H1 = [(x5, .cells #[.slice a n c] 35 (0, 0)), (x3, .cells #[.pointer (some ⟨e, 0, none⟩)] 137 (0, 0)), (x2, .cells #[.pointer (some ⟨s, 0, none⟩)] 37 (0, 0))]) := by
  refine fn_enter (args := [_, _]) Tryd.func87 rfl Tryd.ntmps87 rfl hH ?_
  refine pn_seq ?_
  refine pn_plain [] rfl ?_
  refine TE_box rfl rfl trivial rfl fun b2 hb2 => ?_
  refine TE_box rfl rfl trivial rfl fun b3 hb3 => ?_
  refine TE_q rfl rfl (RD.assign rfl) rfl ?_
  refine TE_nil0 ?_
  refine pn_seq ?_
  refine pn_plain [] rfl ?_
  refine TE_l rfl rfl trivial rfl (RD.load (i := 1) Tryd.isAgg37 rfl rfl rfl) rfl ?_
  refine TE_q rfl rfl (RD.nilCheckP rfl) rfl ?_
  refine TE_q rfl rfl (RD.fieldAddr (o := 0) Tryd.runUnderlying67 rfl rfl Tryd.sizeOf35 rfl) rfl ?_
  refine TE_l rfl rfl trivial rfl (RD.load (i := 2) Tryd.isAgg35 rfl rfl rfl) rfl ?_
  refine TE_alloc rfl Tryd.zeroValue35 trivial rfl fun b5 hb5 => ?_
  refine TE_store (i := 0) rfl Tryd.sizeOf35 trivial rfl rfl rfl rfl rfl rfl (.inl (by assumption)) ?_
  refine TE_nil0 ?_
  refine pn_seq ?_
  refine pn_plain [] rfl ?_
  refine TE_q rfl rfl (RD.makeFunc rfl rfl) rfl ?_
  refine TE_q rfl rfl (RD.assign rfl) rfl ?_
  refine TE_nil0 ?_
  refine pn_ret ?_
  exact pn_done rfl rfl ⟨b2, b3, b5, rfl, rfl⟩ (List.Sublist.cons_cons _ (List.Sublist.cons_cons _ (List.Sublist.cons_cons _ (List.nil_sublist _)))) (by simp; exact ⟨hb5, hb3, hb2⟩)

theorem c_back1 (s e x2 x3 x5 : Nat) (a a' : Option Addr) (n c n' c' : Nat) (ev : Int) (w : World) (hw : Hp ([(x5, .cells #[.slice a n c] 35 (0, 0)), (x3, .cells #[.pointer (some ⟨e, 0, none⟩)] 137 (0, 0)), (x2, .cells #[.pointer (some ⟨s, 0, none⟩)] 37 (0, 0)), (e, .cells #[.int .i64 ev] 32 (0, 0))] ++ [(s, .cells #[.slice a' n' c'] 67 (0, 0))]) w) : CallsDf Tryd.prog 113 #[.pointer (some ⟨x3, 0, none⟩), .pointer (some ⟨x5, 0, none⟩), .pointer (some ⟨x2, 0, none⟩)] w (Ret w [s] fun _ H1 => H1 = [(s, .cells #[if ev = 0 then .slice a' n' c' else .slice a n c] 67 (0, 0))]) := by
  refine fn_enterD (args := [_, _, _]) Tryd.func113 rfl Tryd.ntmps113 rfl hw ?_
  refine pn_seq ?_
  refine pn_plain [] rfl ?_
  refine TE_l rfl rfl trivial rfl (RD.load (i := 1) Tryd.isAgg137 rfl rfl rfl) rfl ?_
  refine TE_q rfl rfl (RD.nilCheckP rfl) rfl ?_
  refine TE_l rfl rfl trivial rfl (RD.load (i := 3) Tryd.isAgg32 rfl rfl rfl) rfl ?_
  refine TE_q rfl rfl (RD.neq rfl rfl) rfl ?_
  refine TE_nil0 ?_
  first | refine pn_condD rfl (fun hc0 => ?_) (fun hc0 => ?_) | refine pn_condN rfl (fun hc0 => ?_) (fun hc0 => ?_) | refine pn_cond rfl (fun hc0 => ?_) (fun hc0 => ?_)
  · refine pn_plain [] rfl ?_
    refine TE_l rfl rfl trivial rfl (RD.load (i := 2) Tryd.isAgg37 rfl rfl rfl) rfl ?_
    refine TE_l rfl rfl trivial rfl (RD.load (i := 0) Tryd.isAgg35 rfl rfl rfl) rfl ?_
    refine TE_q rfl rfl (RD.nilCheckP rfl) rfl ?_
    refine TE_q rfl rfl (RD.fieldAddr (o := 0) Tryd.runUnderlying67 rfl rfl Tryd.sizeOf35 rfl) rfl ?_
    refine TE_store (i := 4) rfl Tryd.sizeOf35 trivial rfl rfl rfl rfl rfl rfl (.inr (by simp)) ?_
    refine TE_nil0 ?_
    (rw [if_neg hc0]; exact pn_doneD rfl rfl rfl (fun w h => h.sub (.cons _ (.cons _ (.cons _ (.cons _ (List.Sublist.refl _)))))) (by simp))
  · refine pn_skip ?_
    (rw [if_pos hc0]; exact pn_doneD rfl rfl rfl (fun w h => h.sub (.cons _ (.cons _ (.cons _ (.cons _ (List.Sublist.refl _)))))) (by simp))

theorem c_next (s : Nat) (w : World) : Calls Tryd.prog 88 #[.pointer (some ⟨s, 0, none⟩)] w (Ret w [] fun v H1 => ∃ x1, v = .func (.func 114) #[] #[.pointer (some ⟨x1, 0, none⟩)] ∧ H1 = [(x1, .cells #[.pointer (some ⟨s, 0, none⟩)] 37 (0, 0))]) := by
  refine fn_enter (args := [_]) Tryd.func88 rfl Tryd.ntmps88 rfl (Hp.nil w) ?_
  refine pn_seq ?_
  refine pn_plain [] rfl ?_
  refine TE_box rfl rfl trivial rfl fun b1 hb1 => ?_
  refine TE_q rfl rfl (RD.assign rfl) rfl ?_
  refine TE_nil0 ?_
  refine pn_seq ?_
  refine pn_plain [] rfl ?_
  refine TE_q rfl rfl (RD.makeFunc rfl rfl) rfl ?_
  refine TE_q rfl rfl (RD.assign rfl) rfl ?_
  refine TE_nil0 ?_
  refine pn_ret ?_
  exact pn_done rfl rfl ⟨b1, rfl, rfl⟩ (List.Sublist.refl _) (by simp; exact hb1)

end Go.Proofs.YthagkkmbbncclaaDoor
