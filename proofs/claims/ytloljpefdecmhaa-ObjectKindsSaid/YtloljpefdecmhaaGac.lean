import Derived.Test.YtloljpefdecmhaaGab
import Derived.Test.YtloljpefdecmhaaSrt
import Derived.ProofKit
import Derived.OpenShut
import Derived.Deep.DeepHandedRow
import Derived.WideKeyArgs
import Derived.Lib.LaidTab
import Derived.SevenTiedAt
import Derived.ChangeSlices
import Derived.Test.YtloljpefdecmhaaShl
namespace Go.Proofs.Ytloljpefdecmhaa
open Go Go.Mv
set_option maxRecDepth 8000
def srcM (s : Nat) (v : Value) (HX : Mem) : Mem := (s, .cells #[v] 88 (0, 0)) :: HX
theorem in_src {s n : Nat} {v v' : Value} {HX : Mem} : ∀ e ∈ srcM s v HX, e.1 ∈ keys (srcM s v' HX) ∨ n ≤ e.1 := fun e he => .inl (show e.1 ∈ keys (srcM s v HX) from mem_keys.2 ⟨e, he, rfl⟩)
theorem build_src (a : Option Addr) (n c : Nat) (w : World) : (Instr.build 88 #[(0, .slice a n c)]).run Try.prog w = .ok (.agg #[.slice a n c]) w := by
  simp [Instr.build, Try.zeroValue88, Try.runUnderlying88, Try.sizeOf22, Value.cells, Instr.fill]

theorem c_from (HX : Mem) (xv : Value) (ys : List UInt8) (w : World) (hb : BytesIn HX xv ys) (hlen : ys.length ≤ 2199023255552) (hH : Hp HX w) : Calls Try.prog 32 #[xv] w (Ret w [] fun v H1 => ∃ s sv H2, v = .pointer (some ⟨s, 0, none⟩) ∧ H1 = srcM s sv H2 ∧ Rdb H2 sv ys) := by
  refine fn_enter (args := [_]) Try.func32 rfl Try.ntmps32 rfl hH ?_
  refine pn_seq ?_
  refine pn_plain [] rfl ?_
  refine TE_q rfl rfl (RD.assign rfl) rfl ?_
  refine TE_nil0 ?_
  refine pn_seq ?_
  refine pn_plain [] rfl ?_
  refine TE_q rfl rfl (RD.move rfl) rfl ?_
  refine TE_call rfl rfl trivial Try.call43 rfl rfl rfl (fun w hs' => c_clone HX xv ys w hs'.hp.left hb hlen) ?_
  rintro v4 H1 hr hX
  obtain ⟨a, c, rfl⟩ := hr.rdb.shape
  refine TE_q rfl rfl (RD.build rfl (build_src _ _ _)) rfl ?_
  refine TE_box rfl rfl trivial rfl fun b6 hb6 => ?_
  refine TE_q rfl rfl (RD.assign rfl) rfl ?_
  refine TE_nil0 ?_
  refine pn_ret ?_
  exact pn_done rfl rfl ⟨b6, _, H1, rfl, rfl, hr.rdb⟩ (List.Sublist.cons_cons _ (List.sublist_append_left _ _)) (allC (Q := fun k => k ∈ _ ∨ _ ≤ k) (.inr hb6) (fun e he => .inr (hX e he)))

theorem c_back (s e : Nat) (a : Option Addr) (n c : Nat) (w : World) (hH : Hp [(s, .cells #[.slice a n c] 88 (0, 0))] w) : Calls Try.prog 45 #[.pointer (some ⟨s, 0, none⟩), .pointer (some ⟨e, 0, none⟩)] w (Ret w [] fun v H1 => ∃ x2 x3 x5, v = .func (.func 48) #[] #[.pointer (some ⟨x3, 0, none⟩), .pointer (some ⟨x5, 0, none⟩), .pointer (some ⟨x2, 0, none⟩)] ∧ H1 = [(x5, .cells #[.slice a n c] 22 (0, 0)), (x3, .cells #[.pointer (some ⟨e, 0, none⟩)] 90 (0, 0)), (x2, .cells #[.pointer (some ⟨s, 0, none⟩)] 74 (0, 0))]) := by
  refine fn_enter (args := [_, _]) Try.func45 rfl Try.ntmps45 rfl hH ?_
  refine pn_seq ?_
  refine pn_plain [] rfl ?_
  refine TE_box rfl rfl trivial rfl fun b2 hb2 => ?_
  refine TE_box rfl rfl trivial rfl fun b3 hb3 => ?_
  refine TE_q rfl rfl (RD.assign rfl) rfl ?_
  refine TE_nil0 ?_
  refine pn_seq ?_
  refine pn_plain [] rfl ?_
  refine TE_l rfl rfl trivial rfl (RD.load (i := 1) Try.isAgg74 rfl rfl rfl) rfl ?_
  refine TE_q rfl rfl (RD.nilCheckP rfl) rfl ?_
  refine TE_q rfl rfl (RD.fieldAddr (o := 0) Try.runUnderlying88 rfl rfl Try.sizeOf22 rfl) rfl ?_
  refine TE_l rfl rfl trivial rfl (RD.load (i := 2) Try.isAgg22 rfl rfl rfl) rfl ?_
  refine TE_alloc rfl Try.zeroValue22 trivial rfl fun b5 hb5 => ?_
  refine TE_store (i := 0) rfl Try.sizeOf22 trivial rfl rfl rfl rfl rfl rfl (.inl (by assumption)) ?_
  refine TE_nil0 ?_
  refine pn_seq ?_
  refine pn_plain [] rfl ?_
  refine TE_q rfl rfl (RD.makeFunc rfl rfl) rfl ?_
  refine TE_q rfl rfl (RD.assign rfl) rfl ?_
  refine TE_nil0 ?_
  refine pn_ret ?_
  exact pn_done rfl rfl ⟨b2, b3, b5, rfl, rfl⟩ (List.Sublist.cons_cons _ (List.Sublist.cons_cons _ (List.Sublist.cons_cons _ (List.nil_sublist _)))) (by simp; exact ⟨hb5, hb3, hb2⟩)

theorem c_back1 (s e x2 x3 x5 : Nat) (a a' : Option Addr) (n c n' c' : Nat) (ev : Int) (w : World) (hw : Hp ([(x5, .cells #[.slice a n c] 22 (0, 0)), (x3, .cells #[.pointer (some ⟨e, 0, none⟩)] 90 (0, 0)), (x2, .cells #[.pointer (some ⟨s, 0, none⟩)] 74 (0, 0)), (e, .cells #[.int .i64 ev] 40 (0, 0))] ++ [(s, .cells #[.slice a' n' c'] 88 (0, 0))]) w) : CallsDf Try.prog 48 #[.pointer (some ⟨x3, 0, none⟩), .pointer (some ⟨x5, 0, none⟩), .pointer (some ⟨x2, 0, none⟩)] w (Ret w [s] fun _ H1 => H1 = [(s, .cells #[if ev = 0 then .slice a' n' c' else .slice a n c] 88 (0, 0))]) := by
  refine fn_enterD (args := [_, _, _]) Try.func48 rfl Try.ntmps48 rfl hw ?_
  refine pn_seq ?_
  refine pn_plain [] rfl ?_
  refine TE_l rfl rfl trivial rfl (RD.load (i := 1) Try.isAgg90 rfl rfl rfl) rfl ?_
  refine TE_q rfl rfl (RD.nilCheckP rfl) rfl ?_
  refine TE_l rfl rfl trivial rfl (RD.load (i := 3) Try.isAgg40 rfl rfl rfl) rfl ?_
  refine TE_q rfl rfl (RD.neq rfl rfl) rfl ?_
  refine TE_nil0 ?_
  first | refine pn_condD rfl (fun hc0 => ?_) (fun hc0 => ?_) | refine pn_condN rfl (fun hc0 => ?_) (fun hc0 => ?_) | refine pn_cond rfl (fun hc0 => ?_) (fun hc0 => ?_)
  · refine pn_plain [] rfl ?_
    refine TE_l rfl rfl trivial rfl (RD.load (i := 2) Try.isAgg74 rfl rfl rfl) rfl ?_
    refine TE_l rfl rfl trivial rfl (RD.load (i := 0) Try.isAgg22 rfl rfl rfl) rfl ?_
    refine TE_q rfl rfl (RD.nilCheckP rfl) rfl ?_
    refine TE_q rfl rfl (RD.fieldAddr (o := 0) Try.runUnderlying88 rfl rfl Try.sizeOf22 rfl) rfl ?_
    refine TE_store (i := 4) rfl Try.sizeOf22 trivial rfl rfl rfl rfl rfl rfl (.inr (by simp)) ?_
    refine TE_nil0 ?_
    (rw [if_neg hc0]; exact pn_doneD rfl rfl rfl (fun w h => h.sub (.cons _ (.cons _ (.cons _ (.cons _ (List.Sublist.refl _)))))) (by simp))
  · refine pn_skip ?_
    (rw [if_pos hc0]; exact pn_doneD rfl rfl rfl (fun w h => h.sub (.cons _ (.cons _ (.cons _ (.cons _ (List.Sublist.refl _)))))) (by simp))

theorem c_next (s : Nat) (w : World) : Calls Try.prog 49 #[.pointer (some ⟨s, 0, none⟩)] w (Ret w [] fun v H1 => ∃ x1, v = .func (.func 50) #[] #[.pointer (some ⟨x1, 0, none⟩)] ∧ H1 = [(x1, .cells #[.pointer (some ⟨s, 0, none⟩)] 74 (0, 0))]) := by
  refine fn_enter (args := [_]) Try.func49 rfl Try.ntmps49 rfl (Hp.nil w) ?_
  refine pn_seq ?_
  refine pn_plain [] rfl ?_
  refine TE_box rfl rfl trivial rfl fun b1 hb1 => ?_
  refine TE_q rfl rfl (RD.assign rfl) rfl ?_
  refine TE_nil0 ?_
  refine pn_seq ?_
  refine pn_plain [] rfl ?_
  refine TE_q rfl rfl (RD.makeFunc rfl rfl) rfl ?_
  refine TE_q rfl rfl (RD.assign rfl) rfl ?_
  refine TE_nil0 ?_
  refine pn_ret ?_
  exact pn_done rfl rfl ⟨b1, rfl, rfl⟩ (List.Sublist.refl _) (by simp; exact hb1)

end Go.Proofs.Ytloljpefdecmhaa

namespace Go.Proofs.Ytloljpefdecmhaa
open Go Go.Mv
set_option maxRecDepth 8000
theorem it_next (HX : Mem) (x1 s : Nat) (a : Option Addr) (n c : Nat) (ys : List UInt8) (hb : Rdb HX (.slice a n c) ys) (hlen : ys.length ≤ 4611686018427387904) : Iter Try.prog 50 [.pointer (some ⟨x1, 0, none⟩)] (fun x => [bcell x]) ((x1, .cells #[.pointer (some ⟨s, 0, none⟩)] 74 (0, 0)) :: srcM s (.slice a n c) HX) ys (fun pre HI' => ∃ a' n' c', HI' = srcM s (.slice a' n' c') HX ∧ Rdb HX (.slice a' n' c') (ys.drop pre.length)) := by
  intro σ l HJ G S w s0 h0 hHp hy
  refine fn_enter (args := [_, _]) Try.func50 rfl Try.ntmps50 rfl hHp ?_
  refine pn_block ?_
  refine pn_loop (σ := List UInt8 × List UInt8 × Option Addr × Nat × Nat × σ) (fun _ => [(0, .func (.yield l) #[] #[]), (1, .pointer (some ⟨x1, 0, none⟩))]) (fun x => (x1, .cells #[.pointer (some ⟨s, 0, none⟩)] 74 (0, 0)) :: srcM s (.slice x.2.2.1 x.2.2.2.1 x.2.2.2.2.1) (HX ++ HJ x.2.2.2.2.2)) (fun x => ys = x.1 ++ x.2.1 ∧ Rdb HX (.slice x.2.2.1 x.2.2.2.1 x.2.2.2.2.1) x.2.1 ∧ G x.1 x.2.2.2.2.2 ∧ (∀ e ∈ HJ x.2.2.2.2.2, w.heap.size ≤ e.1 ∨ e.1 ∈ keys (((x1, .cells #[.pointer (some ⟨s, 0, none⟩)] 74 (0, 0)) :: srcM s (.slice a n c) HX) ++ HJ s0))) (fun x => x.2.1.length) ([], ys, a, n, c, s0) ⟨rfl, hb, h0, fun e he => .inr (mem_keys.2 ⟨e, by simp [he], rfl⟩)⟩ ⟨rfl, rfl, trivial⟩ (List.Sublist.refl _) ?_
  rintro ⟨pre, rest, a', n', c', st⟩ ⟨hpre, hb', hG, hX⟩; dsimp only at hpre hb' hG hX ⊢; have hXs : ∀ e ∈ srcM s (.slice a' n' c') HX, e.1 ∈ keys (((x1, .cells #[.pointer (some ⟨s, 0, none⟩)] 74 (0, 0)) :: srcM s (.slice a n c) HX) ++ HJ s0) ∨ w.heap.size ≤ e.1 := (allC (Q := fun k => k ∈ keys (((x1, .cells #[.pointer (some ⟨s, 0, none⟩)] 74 (0, 0)) :: srcM s (.slice a n c) HX) ++ HJ s0) ∨ w.heap.size ≤ k) (.inl (by simp [srcM])) (fun e he => .inl (mem_keys.2 ⟨e, by simp [srcM, he], rfl⟩))); rcases rest with _ | ⟨ch, r⟩
  · refine pn_seq ?_
    refine pn_seq ?_
    refine pn_plain [4] rfl ?_
    refine TE_l rfl rfl trivial rfl (RD.load (i := 0) Try.isAgg74 rfl rfl rfl) rfl ?_
    refine TE_q rfl rfl (RD.nilCheckP rfl) rfl ?_
    refine TE_q rfl rfl (RD.fieldAddr (o := 0) Try.runUnderlying88 rfl rfl Try.sizeOf22 rfl) rfl ?_
    refine TE_l rfl rfl trivial rfl (RD.load (i := 1) Try.isAgg22 rfl rfl rfl) rfl ?_
    refine TE_q rfl rfl (RD.lenR Try.runUnderlying22 rfl hb') rfl ?_
    refine TE_q rfl rfl (RD.gtr rfl rfl) rfl ?_
    refine TE_nil0 ?_
    refine pn_condF rfl ?_
    refine pn_exit ?_
    (rw [List.append_nil] at hpre; subst hpre; exact pn_done rfl rfl ⟨st, srcM s (.slice a' n' c') HX, rfl, .inl ⟨hG, a', n', c', rfl, by simpa using hb'⟩⟩ (List.sublist_cons_self _ _) (allA (Q := fun k => k ∈ _ ∨ _ ≤ k) hXs (fun e he => (hX e he).symm)))
  · obtain ⟨bb, off, cap, hsl, hcap, hcell⟩ := hb'.cons; simp only [Value.slice.injEq] at hsl; obtain ⟨rfl, rfl, rfl⟩ := hsl; have hlr : r.length + 1 ≤ 4611686018427387904 := (by have := congrArg List.length hpre; simp only [List.length_append, List.length_cons] at this; omega); have hcut := hb'.cut (l := 1) (by simp); have hpx : (pre ++ [ch]) <+: ys := ⟨r, by rw [hpre, List.append_assoc]; rfl⟩; have hdr : ys.drop (pre ++ [ch]).length = r := (by rw [hpre, show pre ++ ch :: r = (pre ++ [ch]) ++ r from by simp, List.drop_left])
    refine pn_seq ?_
    refine pn_seq ?_
    refine pn_plain [4] rfl ?_
    refine TE_l rfl rfl trivial rfl (RD.load (i := 0) Try.isAgg74 rfl rfl rfl) rfl ?_
    refine TE_q rfl rfl (RD.nilCheckP rfl) rfl ?_
    refine TE_q rfl rfl (RD.fieldAddr (o := 0) Try.runUnderlying88 rfl rfl Try.sizeOf22 rfl) rfl ?_
    refine TE_l rfl rfl trivial rfl (RD.load (i := 1) Try.isAgg22 rfl rfl rfl) rfl ?_
    refine TE_q rfl rfl (RD.lenR Try.runUnderlying22 rfl hb') rfl ?_
    refine TE_q rfl rfl (RD.as (v := .bool true) (RD.gtr rfl rfl) (by rw [decide_eq_true (by simp only [List.length_cons]; omega)])) rfl ?_
    refine TE_nil0 ?_
    refine pn_condT rfl ?_
    refine pn_skip ?_
    refine pn_block ?_
    refine pn_seq ?_
    refine pn_plain [] rfl ?_
    refine TE_l rfl rfl trivial rfl (RD.load (i := 0) Try.isAgg74 rfl rfl rfl) rfl ?_
    refine TE_q rfl rfl (RD.nilCheckP rfl) rfl ?_
    refine TE_q rfl rfl (RD.fieldAddr (o := 0) Try.runUnderlying88 rfl rfl Try.sizeOf22 rfl) rfl ?_
    refine TE_l rfl rfl trivial rfl (RD.load (i := 1) Try.isAgg22 rfl rfl rfl) rfl ?_
    refine TE_q rfl rfl (RD.indexAddrS Try.runUnderlying22 Try.sizeOf5 rfl rfl (by omega) (by omega)) rfl ?_
    refine TE_l rfl rfl trivial rfl (RD.loadC Try.isAgg5 rfl (fun w hw => hcell w (hw.left.sub (.cons _ (.cons _ (List.sublist_append_left _ _)))))) rfl ?_
    refine TE_q rfl rfl (RD.assign rfl) rfl ?_
    refine TE_nil0 ?_
    refine pn_seq ?_
    refine pn_drawT [0, 1] [1] [0] [_, _] (HX ++ HJ st) rfl rfl (by kernel_rfl) (by kernel_rfl) rfl rfl ?_
    refine TE_q rfl rfl (RD.load (i := 0) Try.isAgg74 rfl rfl rfl) rfl ?_
    refine TE_q rfl rfl (RD.load (i := 0) Try.isAgg74 rfl rfl rfl) rfl ?_
    refine TE_q rfl rfl (RD.nilCheckP rfl) rfl ?_
    refine TE_q rfl rfl (RD.fieldAddr (o := 0) Try.runUnderlying88 rfl rfl Try.sizeOf22 rfl) rfl ?_
    refine TE_l rfl rfl trivial rfl (RD.load (i := 0) Try.isAgg22 rfl rfl rfl) rfl ?_
    refine TE_q rfl rfl (RD.sliceR (l := 1) (h := r.length + 1) Try.runUnderlying22 Try.sizeOf5 rfl hb' ⟨_, rfl⟩ (by simp) (by omega) (by simp)) rfl ?_
    refine TE_q rfl rfl (RD.nilCheckP rfl) rfl ?_
    refine TE_q rfl rfl (RD.fieldAddr (o := 0) Try.runUnderlying88 rfl rfl Try.sizeOf22 rfl) rfl ?_
    refine TE_store (i := 0) rfl Try.sizeOf22 trivial rfl rfl rfl rfl rfl rfl (.inr (by simp [srcM])) ?_
    refine TE_nil ?_
    refine pn_seq ?_
    refine pn_pickT [1, 0] [_, _] (HX ++ HJ st) rfl rfl rfl ?_
    refine pn_plain [] rfl ?_
    refine TE_q rfl rfl (RD.move rfl) rfl ?_
    refine TE_q rfl rfl (RD.move rfl) rfl ?_
    refine TE_yieldT (_ :: _ :: HX) (HJ st) rfl rfl rfl trivial rfl rfl rfl hX (fun W hW => hy pre ch st W hG hpx hW.fr (hW.hp.left.sub (.cons _ (.cons _ (List.sublist_append_right _ _))))) ?_
    rintro v26 H2 ⟨s', rfl, ⟨rfl, hG'⟩ | ⟨rfl, hS'⟩⟩ hX'
    all_goals refine TE_q rfl rfl (RD.not rfl) rfl ?_
    all_goals refine TE_nil0 ?_
    all_goals first
      | (
          refine pn_condT rfl ?_
          refine pn_ret ?_
          exact pn_done rfl rfl ⟨s', srcM s (subV 1 (r.length + 1) (.slice (some ⟨bb, off, none⟩) (r.length + 1) c')) HX, rfl, .inr ⟨pre ++ [ch], hpx, hS', _, _, _, rfl, by rw [hdr]; exact hcut⟩⟩ (List.sublist_cons_self _ _) (allA (Q := fun k => k ∈ _ ∨ _ ≤ k) (allC (Q := fun k => k ∈ _ ∨ _ ≤ k) (hXs (s, _) List.mem_cons_self) (fun e he => hXs e (List.mem_cons_of_mem _ he))) (where_ hX')))
      | (
          refine pn_condF rfl ?_
          refine pn_skip ?_
          (exact pn_again (pre ++ [ch], r, _, _, _, s') ⟨by rw [hpre, List.append_assoc]; rfl, hcut, hG', hX'⟩ (by show r.length < (ch :: r).length; simp) ⟨rfl, rfl, trivial⟩ (List.Sublist.refl _)))
      | (
          first | refine pn_condD rfl (fun hc1 => ?_) (fun hc1 => ?_) | refine pn_condN rfl (fun hc1 => ?_) (fun hc1 => ?_) | refine pn_cond rfl (fun hc1 => ?_) (fun hc1 => ?_)
          · refine pn_ret ?_
            exact pn_done rfl rfl ⟨s', srcM s (subV 1 (r.length + 1) (.slice (some ⟨bb, off, none⟩) (r.length + 1) c')) HX, rfl, .inr ⟨pre ++ [ch], hpx, hS', _, _, _, rfl, by rw [hdr]; exact hcut⟩⟩ (List.sublist_cons_self _ _) (allA (Q := fun k => k ∈ _ ∨ _ ≤ k) (allC (Q := fun k => k ∈ _ ∨ _ ≤ k) (hXs (s, _) List.mem_cons_self) (fun e he => hXs e (List.mem_cons_of_mem _ he))) (where_ hX'))
          · refine pn_skip ?_
            (exact pn_again (pre ++ [ch], r, _, _, _, s') ⟨by rw [hpre, List.append_assoc]; rfl, hcut, hG', hX'⟩ (by show r.length < (ch :: r).length; simp) ⟨rfl, rfl, trivial⟩ (List.Sublist.refl _)))

end Go.Proofs.Ytloljpefdecmhaa

namespace Go.Proofs.Ytloljpefdecmhaa
open Go Go.Mv
set_option maxRecDepth 8000
/-- What reading leaves: the value and no error, the source behind it; or an error. -/
def Reads {α : Type} (HX : Mem) (s : Nat) (enc : α → Value) (z : Value) (ys : List UInt8) (d : Dr α) (v : Value) (H1 : Mem) : Prop :=
  (∃ x r v', d = .ok x r ∧ v = .tuple #[enc x, .int .i64 0] ∧ H1 = srcM s v' HX ∧ Rdb HX v' r ∧ r.length ≤ ys.length) ∨
  (∃ e v' r, d = .err e ∧ e ≠ 0 ∧ v = .tuple #[z, .int .i64 e] ∧ H1 = srcM s v' HX ∧ Rdb HX v' r ∧ r.length ≤ ys.length)
abbrev NumS := Nat × Nat × Bool × Int
def numJ (b4 b5 b6 b7 : Nat) (x : NumS) : Mem := [(b7, .cells #[.bool x.2.2.1] 4 (0, 0)), (b6, .cells #[.int .i64 (x.2.1 : Int)] 3 (0, 0)), (b5, .cells #[.int .i64 x.2.2.2] 40 (0, 0)), (b4, .cells #[.int .u64 (x.1 : Int)] 83 (0, 0))]
/-- What is known while a number is read. -/
def numG (ys pre : List UInt8) (x : NumS) : Prop := x.2.1 = pre.length ∧ x.2.2.1 = false ∧ x.2.2.2 = 0 ∧ pre.length ≤ 9 ∧ x.1 < 128 ^ pre.length ∧ ∀ rest, ys = pre ++ rest → numR ys = decL rest pre.length x.1
def numT (ys : List UInt8) (c : Code) (pre : List UInt8) (x : NumS) : Prop :=
  (c = .ret ∧ x.1 = 0 ∧ x.2.2.2 = 11 ∧ numR ys = .form) ∨ (c = .exit 0 ∧ x.2.2.1 = true ∧ x.2.2.2 = 0 ∧ x.1 < 18446744073709551616 ∧ numR ys = .ok x.1 (ys.drop pre.length))
theorem numG0 (ys : List UInt8) : numG ys [] (0, 0, false, 0) := ⟨rfl, rfl, rfl, by decide, by decide, fun rest h => by rw [h]; rfl⟩
theorem numG_step {ys pre : List UInt8} {c : UInt8} {a m : Nat} {wh : Bool} {e : Int} (h : numG ys pre (a, m, wh, e)) (_ : (pre ++ [c]) <+: ys)
    (hf : ¬ ((m = 9 ∧ (c.toNat % 128 > 1 ∨ ¬ c.toNat < 128)) ∨ (c.toNat < 128 ∧ c.toNat % 128 = 0 ∧ 0 < m))) (hc : ¬ c.toNat < 128) : numG ys (pre ++ [c]) (a + c.toNat % 128 * 128 ^ m, m + 1, false, 0) := by
  obtain ⟨h1, h2, h3, h4, h5, h6⟩ := h
  dsimp only at h1 h2 h3 h5 h6
  subst h1
  refine ⟨by simp, rfl, rfl, by simp; omega, by simpa using acc_lt h5, fun rest hr => ?_⟩
  rw [h6 (c :: rest) (by rw [hr]; simp)]
  simp only [decL, if_neg hf, if_neg hc, List.length_append, List.length_cons, List.length_nil, Nat.zero_add]
theorem numT_form {ys pre : List UInt8} {c : UInt8} {a m : Nat} {wh wh' : Bool} {e : Int} (h : numG ys pre (a, m, wh, e)) (hpre : (pre ++ [c]) <+: ys)
    (hf : (m = 9 ∧ (c.toNat % 128 > 1 ∨ ¬ c.toNat < 128)) ∨ (c.toNat < 128 ∧ c.toNat % 128 = 0 ∧ 0 < m)) : numT ys .ret (pre ++ [c]) (0, m, wh', 11) := by
  obtain ⟨h1, h2, h3, h4, h5, h6⟩ := h
  dsimp only at h1 h2 h3 h5 h6
  subst h1
  obtain ⟨t, ht⟩ := hpre
  refine .inl ⟨rfl, rfl, rfl, ?_⟩
  rw [h6 (c :: t) (by rw [← ht]; simp)]
  simp only [decL, if_pos hf]
theorem numT_ok {ys pre : List UInt8} {c : UInt8} {a m : Nat} {wh : Bool} {e : Int} (h : numG ys pre (a, m, wh, e)) (hpre : (pre ++ [c]) <+: ys)
    (hf : ¬ ((m = 9 ∧ (c.toNat % 128 > 1 ∨ ¬ c.toNat < 128)) ∨ (c.toNat < 128 ∧ c.toNat % 128 = 0 ∧ 0 < m))) (hc : c.toNat < 128) : numT ys (.exit 0) (pre ++ [c]) (a + c.toNat % 128 * 128 ^ m, m + 1, true, 0) := by
  obtain ⟨h1, h2, h3, h4, h5, h6⟩ := h
  dsimp only at h1 h2 h3 h5 h6
  subst h1
  obtain ⟨t, ht⟩ := hpre
  have hn : numR ys = .ok (a + c.toNat % 128 * 128 ^ pre.length) t := by
    rw [h6 (c :: t) (by rw [← ht]; simp)]
    simp only [decL, if_neg hf, if_pos hc]
  refine .inr ⟨rfl, rfl, rfl, (numR_ok hn).2, ?_⟩
  rw [hn, ← ht, List.drop_left]
theorem num_short {ys : List UInt8} {x : NumS} (h : numG ys ys x) : numR ys = .short := by
  rw [h.2.2.2.2.2 [] (by simp)]; rfl

theorem num_end {HX : Mem} {s : Nat} {ys : List UInt8} {w : World} {a a' : Option Addr} {n c n' c' D b4 b5 b6 b7 x2 x3 x5 : Nat} {E : Env} {acc m : Nat} {wh : Bool} {ev : Int} {d : Dr Nat} (h4 : E.get 4 = some (.pointer (some ⟨b4, 0, none⟩))) (h5 : E.get 5 = some (.pointer (some ⟨b5, 0, none⟩))) (hD : w.heap.size ≤ D)
    (hres : Reads HX s (fun n : Nat => .int .u64 (n : Int)) (.int .u64 0) ys d (.tuple #[.int .u64 (acc : Int), .int .i64 ev]) (srcM s (if ev = 0 then .slice a' n' c' else .slice a n c) HX)) :
    PN ⟨60, [{ target := .collected D, args := #[] }, { target := .fn (.func 48) #[.pointer (some ⟨x3, 0, none⟩), .pointer (some ⟨x5, 0, none⟩), .pointer (some ⟨x2, 0, none⟩)], args := #[] }], w, keys (srcM s (.slice a n c) HX)⟩ (retP Try.prog Try.f46 (Ret w (keys (srcM s (.slice a n c) HX)) (Reads HX s (fun n : Nat => .int .u64 (n : Int)) (.int .u64 0) ys d))) E
      (numJ b4 b5 b6 b7 (acc, m, wh, ev) ++ (srcM s (.slice a' n' c') HX ++ ((D, .deferred (some [])) :: [(x5, .cells #[.slice a n c] 22 (0, 0)), (x3, .cells #[.pointer (some ⟨b5, 0, none⟩)] 90 (0, 0)), (x2, .cells #[.pointer (some ⟨s, 0, none⟩)] 74 (0, 0))]))) := by
  refine lv_ret (lv_mark (numJ b4 b5 b6 b7 (acc, m, wh, ev) ++ srcM s (.slice a' n' c') HX) [(x5, .cells #[.slice a n c] 22 (0, 0)), (x3, .cells #[.pointer (some ⟨b5, 0, none⟩)] 90 (0, 0)), (x2, .cells #[.pointer (some ⟨s, 0, none⟩)] 74 (0, 0))] (by simp) hD ?_)
  refine lv_call (numJ b4 b5 b6 b7 (acc, m, wh, ev) ++ ([(x5, .cells #[.slice a n c] 22 (0, 0)), (x3, .cells #[.pointer (some ⟨b5, 0, none⟩)] 90 (0, 0)), (x2, .cells #[.pointer (some ⟨s, 0, none⟩)] 74 (0, 0))] ++ HX)) [(s, .cells #[.slice a' n' c'] 88 (0, 0))] (fun w h => ?_) Try.call48 (allC (Q := fun k => w.heap.size ≤ k ∨ k ∈ keys (srcM s (.slice a n c) HX)) (.inr (by simp [srcM])) (allN (Q := fun k => w.heap.size ≤ k ∨ k ∈ keys (srcM s (.slice a n c) HX)))) (fun w h => ?_) (post' := fun _ H1 => H1 = [(s, .cells #[if ev = 0 then .slice a' n' c' else .slice a n c] 88 (0, 0))]) ?_
  · have h1 : Hp (numJ b4 b5 b6 b7 (acc, m, wh, ev) ++ ([(x5, .cells #[.slice a n c] 22 (0, 0)), (x3, .cells #[.pointer (some ⟨b5, 0, none⟩)] 90 (0, 0)), (x2, .cells #[.pointer (some ⟨s, 0, none⟩)] 74 (0, 0))] ++ srcM s (.slice a' n' c') HX)) w := h.perm (by rw [List.append_assoc]; exact List.Perm.append_left _ List.perm_append_comm)
    exact (Hp.pickT (A := [_, _, _, _, _, _, _, _]) (T := HX) (is := [7, 0, 1, 2, 3, 4, 5, 6]) h1 rfl rfl).perm (List.perm_append_comm (l₁ := [_]))
  · have h1 : Hp ([(s, .cells #[.slice a' n' c'] 88 (0, 0))] ++ (numJ b4 b5 b6 b7 (acc, m, wh, ev) ++ ([(x5, .cells #[.slice a n c] 22 (0, 0)), (x3, .cells #[.pointer (some ⟨b5, 0, none⟩)] 90 (0, 0)), (x2, .cells #[.pointer (some ⟨s, 0, none⟩)] 74 (0, 0))] ++ HX))) w := h.perm List.perm_append_comm
    exact c_back1 s b5 x2 x3 x5 a a' n c n' c' ev w (Hp.pickT (A := [_, _, _, _, _, _, _, _]) (T := HX) (is := [5, 6, 7, 3, 0]) h1 rfl rfl).left
  · rintro v H1 rfl -
    refine lv_end (l := [.cell 4 83, .cell 5 40]) (H1 := srcM s (if ev = 0 then .slice a' n' c' else .slice a n c) HX) rfl ⟨_, _, b4, 0, rfl, h4, load_cell (i := 3) Try.isAgg83 rfl rfl, _, _, b5, 0, rfl, h5, load_cell (i := 2) Try.isAgg40 rfl rfl, rfl⟩ hres (fun w h => ?_) in_src
    have h1 : Hp ([(s, .cells #[if ev = 0 then .slice a' n' c' else .slice a n c] 88 (0, 0))] ++ (numJ b4 b5 b6 b7 (acc, m, wh, ev) ++ ([(x5, .cells #[.slice a n c] 22 (0, 0)), (x3, .cells #[.pointer (some ⟨b5, 0, none⟩)] 90 (0, 0)), (x2, .cells #[.pointer (some ⟨s, 0, none⟩)] 74 (0, 0))] ++ HX))) w := h.perm List.perm_append_comm
    exact (Hp.pickT (A := [_, _, _, _, _, _, _, _]) (T := HX) (is := [0]) h1 rfl rfl)

set_option maxHeartbeats 2000000 in
theorem c_num (HX : Mem) (s most : Nat) (sv : Value) (ys : List UInt8) (w : World) (hb : Rdb HX sv ys) (hlen : ys.length ≤ 4611686018427387904) (_ : most < 18446744073709551616) (hw : Hp (srcM s sv HX) w) : Calls Try.prog 46 #[.pointer (some ⟨s, 0, none⟩), .int .u64 (most : Int)] w (Ret w (keys (srcM s sv HX)) (Reads HX s (fun n : Nat => .int .u64 (n : Int)) (.int .u64 0) ys (numD most ys))) := by
  obtain ⟨a, c, rfl⟩ := hb.shape
  generalize hn : ys.length = n at *
  refine fn_enter (args := [_, _]) Try.func46 rfl Try.ntmps46 rfl hw ?_
  refine pn_seq ?_
  refine pn_plain [] rfl ?_
  refine TE_alloc rfl Try.zeroValue83 trivial rfl fun b4 hb4 => ?_
  refine TE_alloc rfl Try.zeroValue40 trivial rfl fun b5 hb5 => ?_
  refine TE_nil0 ?_
  refine pn_scope ?_
  refine pn_seq ?_
  refine pn_seq ?_
  refine pn_plain [] rfl ?_
  refine TE_q rfl rfl (RD.move rfl) rfl ?_
  refine TE_q rfl rfl (RD.ptr_eql_nil Try.runUnderlying74 rfl rfl) rfl ?_
  refine TE_nil0 ?_
  refine pn_condF rfl ?_
  refine pn_skip ?_
  refine pn_seq ?_
  refine pn_plain [] rfl ?_
  refine TE_q rfl rfl (RD.move rfl) rfl ?_
  refine TE_call rfl rfl trivial Try.call45 rfl rfl rfl (fun w hs' => c_back s b5 a n c w (hs'.hp.left.sub (.cons _ (.cons _ (.cons_cons _ (List.nil_sublist _)))))) ?_
  rintro v13 H1 ⟨x2, x3, x5, rfl, rfl⟩ hxs
  refine TE_defer rfl trivial rfl rfl ?_
  refine TE_nil0 ?_
  refine pn_seq ?_
  refine pn_plain [] rfl ?_
  refine TE_alloc rfl Try.zeroValue3 trivial rfl fun b6 hb6 => ?_
  refine TE_alloc rfl Try.zeroValue4 trivial rfl fun b7 hb7 => ?_
  refine TE_store (i := 1) rfl Try.sizeOf3 trivial rfl rfl rfl rfl rfl rfl (.inl (by assumption)) ?_
  refine TE_store (i := 0) rfl Try.sizeOf4 trivial rfl rfl rfl rfl rfl rfl (.inl (by assumption)) ?_
  refine TE_nil0 ?_
  refine pn_seq ?_
  refine pn_label ?_
  refine pn_seq ?_
  refine pn_seq ?_
  refine pn_plain [] rfl ?_
  refine TE_q rfl rfl (RD.move rfl) rfl ?_
  refine TE_call rfl rfl trivial Try.call49 rfl rfl rfl (fun w hs' => c_next s w) ?_
  rintro v15 H1 ⟨x1, rfl, rfl⟩ hx1
  refine TE_nil0 ?_
  refine pn_block ?_
  refine pn_rangeH (τ := Unit) (HI := (x1, .cells #[.pointer (some ⟨s, 0, none⟩)] 74 (0, 0)) :: srcM s (.slice a n c) HX) (HR := [(x5, .cells #[.slice a n c] 22 (0, 0)), (x3, .cells #[.pointer (some ⟨b5, 0, none⟩)] 90 (0, 0)), (x2, .cells #[.pointer (some ⟨s, 0, none⟩)] 74 (0, 0))]) (it_next HX x1 s a n c ys hb (by omega)) (numJ b4 b5 b6 b7) (numG ys) (numT ys) (0, 0, false, 0) (numG0 ys) rfl Try.call50 (by intro x; rfl) rfl (fun w h => (Hp.pickT (A := [_, _, _, _, _, _, _, _, _]) (T := HX) (is := [1, 2, 6, 7, 3, 4, 5, 0, 8]) h rfl rfl).perm (List.perm_append_comm (l₁ := [_, _, _, _, _, _, _]))) (allA (Q := fun k => w.heap.size ≤ k ∨ k ∈ keys (srcM s (.slice a n c) HX)) (allC (Q := fun k => w.heap.size ≤ k ∨ k ∈ keys (srcM s (.slice a n c) HX)) (.inl (hx1 (x1, _) List.mem_cons_self)) (fun e he => .inr (mem_keys.2 ⟨e, he, rfl⟩))) (allC (Q := fun k => w.heap.size ≤ k ∨ k ∈ keys (srcM s (.slice a n c) HX)) (.inl hb7) (allC (Q := fun k => w.heap.size ≤ k ∨ k ∈ keys (srcM s (.slice a n c) HX)) (.inl hb6) (allC (Q := fun k => w.heap.size ≤ k ∨ k ∈ keys (srcM s (.slice a n c) HX)) (.inl hb5) (allC (Q := fun k => w.heap.size ≤ k ∨ k ∈ keys (srcM s (.slice a n c) HX)) (.inl hb4) (allN (Q := fun k => w.heap.size ≤ k ∨ k ∈ keys (srcM s (.slice a n c) HX)))))))) (fun x _ => [(8, bcell x), (7, .pointer (some ⟨b7, 0, none⟩)), (6, .pointer (some ⟨b6, 0, none⟩)), (5, .pointer (some ⟨b5, 0, none⟩)), (4, .pointer (some ⟨b4, 0, none⟩)), (0, .pointer (some ⟨s, 0, none⟩)), (1, .int .u64 (most : Int))]) (fun _ _ => []) (fun _ _ => True) ?_ ?_ ?_ ?_
  · intro W l1 pre x y R hW hG hpre
    refine pn_plain [] rfl ?_
    refine TE_q rfl rfl (RD.assign rfl) rfl ?_
    refine TE_nil0 ?_
    (exact fun a w hr hs => ⟨(), trivial, hr.keeps ⟨rfl, rfl, rfl, rfl, rfl, rfl, rfl, trivial⟩, hs⟩)
  · rintro W l1 pre ch ⟨acc, m, wh, e⟩ t R hW hG hpre -; have hG' := hG; obtain ⟨h1, h2, h3, h4, h5, h6⟩ := hG'; dsimp only at h1 h2 h3 h5 h6; subst h2; subst h3; rw [← h1] at h4 h5; have hch : ch.toNat < 256 := ch.toNat_lt
    refine pn_block ?_
    refine pn_seq ?_
    refine pn_plain [2] rfl ?_
    refine TE_q rfl rfl (RD.move rfl) rfl ?_
    refine TE_q rfl rfl (RD.as (RD.rem rfl rfl (by decide)) (rem128 ch.toNat)) rfl ?_
    refine TE_q rfl rfl (RD.as (RD.conv Try.runUnderlying5 Try.runUnderlying83 rfl) (u64_len (by omega))) rfl ?_
    refine TE_q rfl rfl (RD.assign rfl) rfl ?_
    refine TE_nil0 ?_
    refine pn_seq ?_
    refine pn_seq ?_
    refine pn_plain [] rfl ?_
    refine TE_q rfl rfl (RD.move rfl) rfl ?_
    refine TE_q rfl rfl (RD.lss rfl rfl) rfl ?_
    refine TE_store (i := 0) rfl Try.sizeOf4 trivial rfl rfl rfl rfl rfl rfl (.inr (by simp [numJ])) ?_
    refine TE_nil0 ?_
    refine pn_seq ?_
    refine pn_cut (σ := Unit) (fun _ => [(42, .bool (decide ((m = 9 ∧ (ch.toNat % 128 > 1 ∨ ¬ ch.toNat < 128)) ∨ (ch.toNat < 128 ∧ ch.toNat % 128 = 0 ∧ 0 < m)))), (9, .int .u64 ((ch.toNat % 128 : Nat) : Int)), (8, bcell ch), (7, .pointer (some ⟨b7, 0, none⟩)), (6, .pointer (some ⟨b6, 0, none⟩)), (5, .pointer (some ⟨b5, 0, none⟩)), (4, .pointer (some ⟨b4, 0, none⟩)), (0, .pointer (some ⟨s, 0, none⟩)), (1, .int .u64 (most : Int))]) (fun _ => ((b7, .cells #[.bool (decide ((ch.toNat : Int) < 128))] 4 (0, 0)) :: (b6, .cells #[.int .i64 (m : Int)] 3 (0, 0)) :: (b5, .cells #[.int .i64 0] 40 (0, 0)) :: (b4, .cells #[.int .u64 (acc : Int)] 83 (0, 0)) :: ([(x5, .cells #[.slice a n c] 22 (0, 0)), (x3, .cells #[.pointer (some ⟨b5, 0, none⟩)] 90 (0, 0)), (x2, .cells #[.pointer (some ⟨s, 0, none⟩)] 74 (0, 0))] ++ R))) (fun _ => True) ?_ ?_
    · refine pn_plain [] rfl ?_
      refine TE_l rfl rfl trivial rfl (RD.load (i := 1) Try.isAgg3 rfl rfl rfl) rfl ?_
      refine TE_q rfl rfl (RD.eql rfl rfl) rfl ?_
      refine TE_q rfl rfl (RD.move rfl) rfl ?_
      (first | refine TE_isT ?_ | refine TE_isF ?_ | refine TE_dec (fun h902 => ?_) (fun h902 => ?_) | refine TE_ndec (fun h902 => ?_) (fun h902 => ?_) | refine TE_bool (fun h902 => ?_) (fun h902 => ?_))
      all_goals (first | (refine TE_s rfl rfl rfl rfl rfl ?_) | (refine TE_gq rfl rfl rfl rfl (RD.move rfl) rfl ?_))
      all_goals (first | (refine TE_s rfl rfl rfl rfl rfl ?_) | (refine TE_gq rfl rfl rfl rfl (RD.gtr rfl rfl) rfl ?_))
      all_goals (first | (refine TE_s rfl rfl rfl rfl rfl ?_) | (refine TE_gq rfl rfl rfl rfl (RD.move rfl) rfl ?_))
      all_goals (first | refine TE_isT ?_ | refine TE_isF ?_ | refine TE_dec (fun h905 => ?_) (fun h905 => ?_) | refine TE_ndec (fun h905 => ?_) (fun h905 => ?_) | refine TE_bool (fun h905 => ?_) (fun h905 => ?_) | skip)
      all_goals (first | (refine TE_s rfl rfl rfl rfl rfl ?_) | (refine TE_su rfl rfl rfl rfl ?_) | (refine TE_l rfl rfl ⟨_, rfl, rfl⟩ rfl (RD.load (i := 0) Try.isAgg4 rfl rfl rfl) rfl ?_))
      all_goals (first | (refine TE_s rfl rfl rfl rfl rfl ?_) | (refine TE_su rfl rfl rfl rfl ?_) | (refine TE_gq rfl rfl rfl rfl (RD.not rfl) rfl ?_))
      all_goals (first | (refine TE_s rfl rfl rfl rfl rfl ?_) | (refine TE_gq rfl rfl rfl rfl (RD.pickT rfl rfl) rfl ?_) | (refine TE_gq rfl rfl rfl rfl (RD.pickF rfl rfl) rfl ?_))
      all_goals (first | (refine TE_q rfl rfl (RD.pickT rfl rfl) rfl ?_) | (refine TE_q rfl rfl (RD.pickF rfl rfl) rfl ?_))
      all_goals refine TE_q rfl rfl (RD.move rfl) rfl ?_
      all_goals (first | refine TE_isT ?_ | refine TE_isF ?_ | refine TE_dec (fun h910 => ?_) (fun h910 => ?_) | refine TE_ndec (fun h910 => ?_) (fun h910 => ?_) | refine TE_bool (fun h910 => ?_) (fun h910 => ?_))
      all_goals (first | (refine TE_s rfl rfl rfl rfl rfl ?_) | (refine TE_l rfl rfl ⟨_, rfl, rfl⟩ rfl (RD.load (i := 0) Try.isAgg4 rfl rfl rfl) rfl ?_))
      all_goals (first | (refine TE_s rfl rfl rfl rfl rfl ?_) | (refine TE_gq rfl rfl rfl rfl (RD.move rfl) rfl ?_))
      all_goals (first | refine TE_isT ?_ | refine TE_isF ?_ | refine TE_dec (fun h912 => ?_) (fun h912 => ?_) | refine TE_ndec (fun h912 => ?_) (fun h912 => ?_) | refine TE_bool (fun h912 => ?_) (fun h912 => ?_) | skip)
      all_goals (first | (refine TE_s rfl rfl rfl rfl rfl ?_) | (refine TE_su rfl rfl rfl rfl ?_) | (refine TE_gq rfl rfl rfl rfl (RD.move rfl) rfl ?_))
      all_goals (first | (refine TE_s rfl rfl rfl rfl rfl ?_) | (refine TE_su rfl rfl rfl rfl ?_) | (refine TE_gq rfl rfl rfl rfl (RD.eql rfl rfl) rfl ?_))
      all_goals (first | (refine TE_s rfl rfl rfl rfl rfl ?_) | (refine TE_gq rfl rfl rfl rfl (RD.pickT rfl rfl) rfl ?_) | (refine TE_gq rfl rfl rfl rfl (RD.pickF rfl rfl) rfl ?_))
      all_goals (first | (refine TE_s rfl rfl rfl rfl rfl ?_) | (refine TE_gq rfl rfl rfl rfl (RD.move rfl) rfl ?_))
      all_goals (first | refine TE_isT ?_ | refine TE_isF ?_ | refine TE_dec (fun h916 => ?_) (fun h916 => ?_) | refine TE_ndec (fun h916 => ?_) (fun h916 => ?_) | refine TE_bool (fun h916 => ?_) (fun h916 => ?_) | skip)
      all_goals (first | (refine TE_s rfl rfl rfl rfl rfl ?_) | (refine TE_su rfl rfl rfl rfl ?_) | (refine TE_l rfl rfl ⟨_, rfl, rfl⟩ rfl (RD.load (i := 1) Try.isAgg3 rfl rfl rfl) rfl ?_))
      all_goals (first | (refine TE_s rfl rfl rfl rfl rfl ?_) | (refine TE_su rfl rfl rfl rfl ?_) | (refine TE_gq rfl rfl rfl rfl (RD.gtr rfl rfl) rfl ?_))
      all_goals (first | (refine TE_s rfl rfl rfl rfl rfl ?_) | (refine TE_gq rfl rfl rfl rfl (RD.pickT rfl rfl) rfl ?_) | (refine TE_gq rfl rfl rfl rfl (RD.pickF rfl rfl) rfl ?_))
      all_goals (first | (refine TE_q rfl rfl (RD.pickT rfl rfl) rfl ?_) | (refine TE_q rfl rfl (RD.pickF rfl rfl) rfl ?_))
      all_goals refine TE_nil0 ?_
      all_goals ((try dsimp only at *); first | (have hF : ((m = 9 ∧ (ch.toNat % 128 > 1 ∨ ¬ ch.toNat < 128)) ∨ (ch.toNat < 128 ∧ ch.toNat % 128 = 0 ∧ 0 < m)) := (by omega); exact pn_give () trivial ⟨by rw [decide_eq_true hF]; rfl, rfl, rfl, rfl, rfl, rfl, rfl, rfl, rfl, trivial⟩ (fun w h => h)) | (have hF : ¬ ((m = 9 ∧ (ch.toNat % 128 > 1 ∨ ¬ ch.toNat < 128)) ∨ (ch.toNat < 128 ∧ ch.toNat % 128 = 0 ∧ 0 < m)) := (by omega); exact pn_give () trivial ⟨by rw [decide_eq_false hF]; rfl, rfl, rfl, rfl, rfl, rfl, rfl, rfl, rfl, trivial⟩ (fun w h => h)) | (have hF : ((m = 9 ∧ (ch.toNat % 128 > 1 ∨ ¬ ch.toNat < 128)) ∨ (ch.toNat < 128 ∧ ch.toNat % 128 = 0 ∧ 0 < m)) ↔ (0 : Int) < (m : Int) := (by omega); exact pn_give () trivial ⟨by rw [decide_eq_decide.2 hF]; rfl, rfl, rfl, rfl, rfl, rfl, rfl, rfl, rfl, trivial⟩ (fun w h => h)))
    rintro - -
    first | refine pn_condD rfl (fun hc1 => ?_) (fun hc1 => ?_) | refine pn_condN rfl (fun hc1 => ?_) (fun hc1 => ?_) | refine pn_cond rfl (fun hc1 => ?_) (fun hc1 => ?_)
    · refine pn_seq ?_
      refine pn_plain [] rfl ?_
      refine TE_store (i := 3) rfl Try.sizeOf83 trivial rfl rfl rfl rfl rfl rfl (.inr (by simp [numJ])) ?_
      refine TE_store (i := 2) rfl Try.sizeOf40 trivial rfl rfl rfl rfl rfl rfl (.inr (by simp [numJ])) ?_
      refine TE_nil0 ?_
      refine pn_ret ?_
      exact pn_endR (σ := NumS) (HJ := numJ b4 b5 b6 b7) (s := (acc, m, false, 0)) (l := l1) (R := R) (0, m, decide ((ch.toNat : Int) < 128), 11) rfl (numT_form hG hpre hc1) (fun w h => h.sub (.cons_cons _ (.cons_cons _ (.cons_cons _ (.cons_cons _ (.cons _ (.cons _ (.cons _ (List.Sublist.refl _))))))))) in_keys
    · refine pn_skip ?_
      refine pn_seq ?_
      refine pn_drawT [2] [3] [0, 1, 2, 4, 5, 6] [_, _, _, _, _, _, _] R rfl rfl (by kernel_rfl) (by kernel_rfl) rfl rfl ?_
      refine TE_l rfl rfl trivial rfl (RD.load (i := 0) Try.isAgg83 rfl rfl rfl) rfl ?_
      refine TE_q rfl rfl (RD.move rfl) rfl ?_
      refine TE_q rfl rfl (RD.load (i := 1) Try.isAgg3 rfl rfl rfl) rfl ?_
      refine TE_q rfl rfl (RD.mulI rfl rfl (by omega) (by omega)) rfl ?_
      refine TE_q rfl rfl (RD.as (RD.shl rfl rfl (by omega)) (shl_low (m := ch.toNat % 128) (by omega) (low_lt h4 hc1))) rfl ?_
      refine TE_q rfl rfl (RD.as (RD.orU rfl rfl (acc_lt64 h4 h5) (low_lt h4 hc1)) (by rw [or_low h5])) rfl ?_
      refine TE_store (i := 0) rfl Try.sizeOf83 trivial rfl rfl rfl rfl rfl rfl (.inr (by simp [numJ])) ?_
      refine TE_nil ?_
      refine pn_seq ?_
      refine pn_pickT [1, 2, 3, 0, 4, 5, 6] [_, _, _, _, _, _, _] R rfl rfl rfl ?_
      refine pn_plain [] rfl ?_
      refine TE_l rfl rfl trivial rfl (RD.load (i := 1) Try.isAgg3 rfl rfl rfl) rfl ?_
      refine TE_q rfl rfl (RD.addI rfl rfl (by omega) (by omega)) rfl ?_
      refine TE_store (i := 1) rfl Try.sizeOf3 trivial rfl rfl rfl rfl rfl rfl (.inr (by simp [numJ])) ?_
      refine TE_nil0 ?_
      refine pn_seq ?_
      refine pn_plain [] rfl ?_
      refine TE_l rfl rfl trivial rfl (RD.load (i := 0) Try.isAgg4 rfl rfl rfl) rfl ?_
      refine TE_nil0 ?_
      first | refine pn_condD rfl (fun hc2 => ?_) (fun hc2 => ?_) | refine pn_condN rfl (fun hc2 => ?_) (fun hc2 => ?_) | refine pn_cond rfl (fun hc2 => ?_) (fun hc2 => ?_)
      · refine pn_exit ?_
        (exact pn_endR (σ := NumS) (HJ := numJ b4 b5 b6 b7) (s := (acc, m, false, 0)) (l := l1) (R := R) (acc + ch.toNat % 128 * 128 ^ m, m + 1, decide ((ch.toNat : Int) < 128), 0) rfl (by rw [show decide ((ch.toNat : Int) < 128) = true from decide_eq_true (by omega)]; exact numT_ok hG hpre hc1 (by omega)) (fun w h => h.sub (.cons_cons _ (.cons_cons _ (.cons_cons _ (.cons_cons _ (.cons _ (.cons _ (.cons _ (List.Sublist.refl _))))))))) in_keys)
      · refine pn_skip ?_
        (exact pn_endR (σ := NumS) (HJ := numJ b4 b5 b6 b7) (s := (acc, m, false, 0)) (l := l1) (R := R) (acc + ch.toNat % 128 * 128 ^ m, m + 1, decide ((ch.toNat : Int) < 128), 0) rfl (by rw [show decide ((ch.toNat : Int) < 128) = false from decide_eq_false (by omega)]; exact numG_step hG hpre hc1 (by omega)) (fun w h => h.sub (.cons_cons _ (.cons_cons _ (.cons_cons _ (.cons_cons _ (.cons _ (.cons _ (.cons _ (List.Sublist.refl _))))))))) in_keys)
  · rintro D HI' ⟨acc, m, wh, e⟩ hD hG ⟨a', n', c', rfl, hb'⟩; have hG' := hG; obtain ⟨h1, h2, h3, h4, h5, h6⟩ := hG'; dsimp only at h1 h2 h3 h5 h6; subst h2; subst h3
    refine pn_seq ?_
    refine pn_block ?_
    refine pn_seq ?_
    refine pn_plain [] rfl ?_
    refine TE_l rfl rfl trivial rfl (RD.load (i := 0) Try.isAgg4 rfl rfl rfl) rfl ?_
    refine TE_q rfl rfl (RD.not rfl) rfl ?_
    refine TE_q rfl rfl (RD.assign rfl) rfl ?_
    refine TE_nil0 ?_
    refine pn_condT rfl ?_
    refine pn_seq ?_
    refine pn_plain [] rfl ?_
    refine TE_store (i := 3) rfl Try.sizeOf83 trivial rfl rfl rfl rfl rfl rfl (.inl hb4) ?_
    refine TE_store (i := 2) rfl Try.sizeOf40 trivial rfl rfl rfl rfl rfl rfl (.inl hb5) ?_
    refine TE_nil0 ?_
    refine pn_ret ?_
    exact num_end rfl rfl hD (.inr ⟨10, _, ys, by simp only [numD, num_short hG], by decide, rfl, rfl, hb, Nat.le_refl _⟩)
  · rintro D HI' c0 pre ⟨acc, m, wh, e⟩ hD hpre hS ⟨a', n', c', rfl, hb'⟩; rcases hS with ⟨rfl, h1, h2, h3⟩ | ⟨rfl, h1, h2, h4, h3⟩; (dsimp only at h1 h2; subst h1; subst h2; refine pn_ret ?_; exact num_end rfl rfl hD (.inr ⟨11, _, ys, by simp only [numD, h3], by decide, rfl, rfl, hb, Nat.le_refl _⟩)); dsimp only at h1 h2 h3 h4; subst h1; subst h2; refine pn_exit ?_
    refine pn_seq ?_
    refine pn_block ?_
    refine pn_seq ?_
    refine pn_plain [] rfl ?_
    refine TE_l rfl rfl trivial rfl (RD.load (i := 0) Try.isAgg4 rfl rfl rfl) rfl ?_
    refine TE_q rfl rfl (RD.not rfl) rfl ?_
    refine TE_q rfl rfl (RD.assign rfl) rfl ?_
    refine TE_nil0 ?_
    refine pn_condF rfl ?_
    refine pn_seq ?_
    refine pn_plain [] rfl ?_
    refine TE_l rfl rfl trivial rfl (RD.load (i := 3) Try.isAgg83 rfl rfl rfl) rfl ?_
    refine TE_q rfl rfl (RD.move rfl) rfl ?_
    refine TE_q rfl rfl (RD.gtr rfl rfl) rfl ?_
    refine TE_q rfl rfl (RD.assign rfl) rfl ?_
    refine TE_nil0 ?_
    first | refine pn_condD rfl (fun hc5 => ?_) (fun hc5 => ?_) | refine pn_condN rfl (fun hc5 => ?_) (fun hc5 => ?_) | refine pn_cond rfl (fun hc5 => ?_) (fun hc5 => ?_)
    · refine pn_seq ?_
      refine pn_plain [] rfl ?_
      refine TE_store (i := 3) rfl Try.sizeOf83 trivial rfl rfl rfl rfl rfl rfl (.inl hb4) ?_
      refine TE_store (i := 2) rfl Try.sizeOf40 trivial rfl rfl rfl rfl rfl rfl (.inl hb5) ?_
      refine TE_nil0 ?_
      refine pn_ret ?_
      exact num_end rfl rfl hD (.inr ⟨12, _, ys, by simp only [numD, h3]; rw [if_pos (by omega)], by decide, rfl, rfl, hb, Nat.le_refl _⟩)
    · refine pn_skip ?_
      refine pn_seq ?_
      refine pn_plain [] rfl ?_
      refine TE_l rfl rfl trivial rfl (RD.load (i := 3) Try.isAgg83 rfl rfl rfl) rfl ?_
      refine TE_store (i := 3) rfl Try.sizeOf83 trivial rfl rfl rfl rfl rfl rfl (.inl hb4) ?_
      refine TE_store (i := 2) rfl Try.sizeOf40 trivial rfl rfl rfl rfl rfl rfl (.inl hb5) ?_
      refine TE_nil0 ?_
      refine pn_ret ?_
      exact num_end rfl rfl hD (.inl ⟨acc, _, _, by simp only [numD, h3]; rw [if_neg (by omega)], rfl, rfl, hb', by simp⟩)

end Go.Proofs.Ytloljpefdecmhaa

namespace Go.Proofs.Ytloljpefdecmhaa
open Go Go.Mv
set_option maxRecDepth 8000
theorem lv_back {fn : Func} {C : Ctx} {R : Ending → World → Prop} {E : Env} {ds : List Deferred} {H : Mem} {s : Nat} {a a' : Option Addr} {n c n' c' b5 x2 x3 x5 : Nat} {ev : Int} (REST : Mem) (hH : ∀ w, Hp H w → Hp (([(x5, .cells #[.slice a n c] 22 (0, 0)), (x3, .cells #[.pointer (some ⟨b5, 0, none⟩)] 90 (0, 0)), (x2, .cells #[.pointer (some ⟨s, 0, none⟩)] 74 (0, 0)), (b5, .cells #[.int .i64 ev] 40 (0, 0))] ++ REST) ++ [(s, .cells #[.slice a' n' c'] 88 (0, 0))]) w) (hX : C.w0.heap.size ≤ s ∨ s ∈ C.X)
    (h : LV Try.prog fn C R E ds (([(x5, .cells #[.slice a n c] 22 (0, 0)), (x3, .cells #[.pointer (some ⟨b5, 0, none⟩)] 90 (0, 0)), (x2, .cells #[.pointer (some ⟨s, 0, none⟩)] 74 (0, 0)), (b5, .cells #[.int .i64 ev] 40 (0, 0))] ++ REST) ++ [(s, .cells #[if ev = 0 then .slice a' n' c' else .slice a n c] 88 (0, 0))])) : LV Try.prog fn C R E ({ target := .fn (.func 48) #[.pointer (some ⟨x3, 0, none⟩), .pointer (some ⟨x5, 0, none⟩), .pointer (some ⟨x2, 0, none⟩)], args := #[] } :: ds) H := by
  refine lv_call ([(x5, .cells #[.slice a n c] 22 (0, 0)), (x3, .cells #[.pointer (some ⟨b5, 0, none⟩)] 90 (0, 0)), (x2, .cells #[.pointer (some ⟨s, 0, none⟩)] 74 (0, 0)), (b5, .cells #[.int .i64 ev] 40 (0, 0))] ++ REST) [(s, .cells #[.slice a' n' c'] 88 (0, 0))] hH Try.call48 (allC (Q := fun k => C.w0.heap.size ≤ k ∨ k ∈ C.X) hX (allN (Q := fun k => C.w0.heap.size ≤ k ∨ k ∈ C.X))) (fun w h => ?_) (post' := fun _ H1 => H1 = [(s, .cells #[if ev = 0 then .slice a' n' c' else .slice a n c] 88 (0, 0))]) ?_
  · exact c_back1 s b5 x2 x3 x5 a a' n c n' c' ev w (h.sub (List.Sublist.append_right (List.sublist_append_left _ _) _))
  · rintro v H1 rfl -
    exact h
/-- What reading bytes leaves. -/
def ReadsB (HX : Mem) (s : Nat) (ys : List UInt8) (d : Dr (List UInt8)) (v : Value) (H1 : Mem) : Prop :=
  (∃ b r v' x H2, d = .ok b r ∧ v = .tuple #[x, .int .i64 0] ∧ RetB 5 x H2 b ∧ H1 = H2 ++ srcM s v' HX ∧ Rdb HX v' r ∧ r.length ≤ ys.length) ∨
  (∃ e v' r, d = .err e ∧ e ≠ 0 ∧ v = .tuple #[.slice none 0 0, .int .i64 e] ∧ H1 = srcM s v' HX ∧ Rdb HX v' r ∧ r.length ≤ ys.length)

theorem c_raw (HX : Mem) (s n : Nat) (sv : Value) (ys : List UInt8) (w : World) (hb : Rdb HX sv ys) (hlen : ys.length ≤ 2199023255552) (hw : Hp (srcM s sv HX) w) : Calls Try.prog 44 #[.pointer (some ⟨s, 0, none⟩), .int .i64 (n : Int)] w (Ret w (keys (srcM s sv HX)) (ReadsB HX s ys (rawD n ys))) := by
  refine fn_enter (args := [_, _]) Try.func44 rfl Try.ntmps44 rfl hw ?_
  refine pn_seq ?_
  refine pn_plain [] rfl ?_
  refine TE_q rfl rfl (RD.assign rfl) rfl ?_
  refine TE_q rfl rfl (RD.assign rfl) rfl ?_
  refine TE_nil0 ?_
  refine pn_seq ?_
  refine pn_block ?_
  refine pn_seq ?_
  refine pn_plain [] rfl ?_
  refine TE_q rfl rfl (RD.move rfl) rfl ?_
  refine TE_q rfl rfl (RD.ptr_eql_nil Try.runUnderlying74 rfl rfl) rfl ?_
  refine TE_q rfl rfl (RD.assign rfl) rfl ?_
  refine TE_nil0 ?_
  refine pn_condF rfl ?_
  refine pn_seq ?_
  refine pn_plain [] rfl ?_
  refine TE_q rfl rfl (RD.move rfl) rfl ?_
  refine TE_q rfl rfl (RD.as (v := .bool false) (RD.lss rfl rfl) (by rw [decide_eq_false (by omega)])) rfl ?_
  refine TE_q rfl rfl (RD.assign rfl) rfl ?_
  refine TE_nil0 ?_
  refine pn_condF rfl ?_
  refine pn_seq ?_
  refine pn_plain [5] rfl ?_
  refine TE_q rfl rfl (RD.move rfl) rfl ?_
  refine TE_q rfl rfl (RD.move rfl) rfl ?_
  refine TE_q rfl rfl (RD.nilCheckP rfl) rfl ?_
  refine TE_q rfl rfl (RD.fieldAddr (o := 0) Try.runUnderlying88 rfl rfl Try.sizeOf22 rfl) rfl ?_
  refine TE_l rfl rfl trivial rfl (RD.load (i := 0) Try.isAgg22 rfl rfl rfl) rfl ?_
  refine TE_q rfl rfl (RD.lenR Try.runUnderlying22 rfl hb) rfl ?_
  refine TE_q rfl rfl (RD.gtr rfl rfl) rfl ?_
  refine TE_q rfl rfl (RD.assign rfl) rfl ?_
  refine TE_nil0 ?_
  first | refine pn_condD rfl (fun hc2 => ?_) (fun hc2 => ?_) | refine pn_condN rfl (fun hc2 => ?_) (fun hc2 => ?_) | refine pn_cond rfl (fun hc2 => ?_) (fun hc2 => ?_)
  · refine pn_seq ?_
    refine pn_plain [] rfl ?_
    refine TE_q rfl rfl (RD.assign rfl) rfl ?_
    refine TE_q rfl rfl (RD.assign rfl) rfl ?_
    refine TE_nil0 ?_
    refine pn_ret ?_
    exact pn_doneF rfl ⟨_, _, rfl, rfl, _, _, rfl, rfl, rfl⟩ (.inr ⟨10, sv, ys, by simp only [rawD]; rw [if_pos (by omega)], by decide, rfl, rfl, hb, Nat.le_refl _⟩) (fun w h => h) in_src
  · refine pn_skip ?_
    refine pn_seq ?_
    refine pn_plain [] rfl ?_
    refine TE_q rfl rfl (RD.move rfl) rfl ?_
    have hle : n ≤ ys.length := (by omega); have hb2 := hb.cut hle; obtain ⟨a2, c2, hs2⟩ := hb2.shape; rw [hs2] at hb2
    refine TE_q rfl rfl (RD.nilCheckP rfl) rfl ?_
    refine TE_q rfl rfl (RD.fieldAddr (o := 0) Try.runUnderlying88 rfl rfl Try.sizeOf22 rfl) rfl ?_
    refine TE_l rfl rfl trivial rfl (RD.load (i := 0) Try.isAgg22 rfl rfl rfl) rfl ?_
    refine TE_q rfl rfl (RD.move rfl) rfl ?_
    refine TE_q rfl rfl (RD.sliceR (l := 0) (h := n) Try.runUnderlying22 Try.sizeOf5 rfl hb rfl ⟨_, rfl⟩ (Nat.zero_le _) hle) rfl ?_
    refine TE_call rfl rfl trivial Try.call43 rfl rfl rfl (fun w hs' => c_clone HX _ (ys.take n) w (hs'.hp.left.sub (List.sublist_cons_self _ _)) (by have := hb.sub (Nat.zero_le n) hle; rw [List.drop_zero] at this; exact this.bytes) (by rw [List.length_take]; omega)) ?_
    rintro v27 H6 hr hX6
    refine TE_q rfl rfl (RD.assign rfl) rfl ?_
    refine TE_nil0 ?_
    refine pn_seq ?_
    refine pn_perm (srcM s sv HX ++ H6) (fun w h => h.perm List.perm_append_comm) ?_
    refine pn_plain [] rfl ?_
    refine TE_q rfl rfl (RD.move rfl) rfl ?_
    refine TE_q rfl rfl (RD.move rfl) rfl ?_
    refine TE_q rfl rfl (RD.nilCheckP rfl) rfl ?_
    refine TE_q rfl rfl (RD.fieldAddr (o := 0) Try.runUnderlying88 rfl rfl Try.sizeOf22 rfl) rfl ?_
    refine TE_l rfl rfl trivial rfl (RD.load (i := 0) Try.isAgg22 rfl rfl rfl) rfl ?_
    refine TE_q rfl rfl (RD.move rfl) rfl ?_
    refine TE_q rfl rfl (RD.as (RD.sliceR (l := n) (h := ys.length) Try.runUnderlying22 Try.sizeOf5 rfl hb ⟨_, rfl⟩ rfl hle (Nat.le_refl _)) hs2) rfl ?_
    refine TE_q rfl rfl (RD.nilCheckP rfl) rfl ?_
    refine TE_q rfl rfl (RD.fieldAddr (o := 0) Try.runUnderlying88 rfl rfl Try.sizeOf22 rfl) rfl ?_
    refine TE_store (i := 0) rfl Try.sizeOf22 trivial rfl rfl rfl rfl rfl rfl (.inr (by simp [srcM])) ?_
    refine TE_nil0 ?_
    refine pn_seq ?_
    refine pn_plain [] rfl ?_
    refine TE_q rfl rfl (RD.move rfl) rfl ?_
    refine TE_q rfl rfl (RD.assign rfl) rfl ?_
    refine TE_q rfl rfl (RD.assign rfl) rfl ?_
    refine TE_nil0 ?_
    refine pn_ret ?_
    exact pn_doneF rfl ⟨_, _, rfl, rfl, _, _, rfl, rfl, rfl⟩ (.inl ⟨_, _, _, _, H6, by simp only [rawD]; rw [if_neg (by omega)], rfl, hr, rfl, hb2, by simp⟩) (fun w h => Hp.perm (A := srcM s _ HX ++ H6) h List.perm_append_comm) (allA (Q := fun k => k ∈ keys (srcM s sv HX) ∨ _ ≤ k) (fun e he => .inr (hX6 e he)) in_src)

theorem c_left (HX : Mem) (s : Nat) (sv : Value) (ys : List UInt8) (w : World) (hb : Rdb HX sv ys) (hw : Hp (srcM s sv HX) w) : Calls Try.prog 41 #[.pointer (some ⟨s, 0, none⟩)] w (Ret w [] fun v H1 => v = .int .i64 ys.length ∧ H1 = []) := by
  refine fn_enter (args := [_]) Try.func41 rfl Try.ntmps41 rfl hw ?_
  refine pn_seq ?_
  refine pn_plain [] rfl ?_
  refine TE_q rfl rfl (RD.assign rfl) rfl ?_
  refine TE_nil0 ?_
  refine pn_seq ?_
  refine pn_seq ?_
  refine pn_plain [] rfl ?_
  refine TE_q rfl rfl (RD.move rfl) rfl ?_
  refine TE_q rfl rfl (RD.ptr_eql_nil Try.runUnderlying74 rfl rfl) rfl ?_
  refine TE_nil0 ?_
  refine pn_condF rfl ?_
  refine pn_skip ?_
  refine pn_seq ?_
  refine pn_plain [4] rfl ?_
  refine TE_q rfl rfl (RD.move rfl) rfl ?_
  refine TE_q rfl rfl (RD.nilCheckP rfl) rfl ?_
  refine TE_q rfl rfl (RD.fieldAddr (o := 0) Try.runUnderlying88 rfl rfl Try.sizeOf22 rfl) rfl ?_
  refine TE_l rfl rfl trivial rfl (RD.load (i := 0) Try.isAgg22 rfl rfl rfl) rfl ?_
  refine TE_q rfl rfl (RD.lenR Try.runUnderlying22 rfl hb) rfl ?_
  refine TE_q rfl rfl (RD.assign rfl) rfl ?_
  refine TE_nil0 ?_
  refine pn_ret ?_
  exact pn_done rfl rfl ⟨rfl, rfl⟩ (List.nil_sublist _) (by simp)

set_option maxHeartbeats 2000000 in
theorem c_bytes (HX : Mem) (s most : Nat) (sv : Value) (ys : List UInt8) (w : World) (hb : Rdb HX sv ys) (hlen : ys.length ≤ 2199023255552) (hm : most ≤ 9223372036854775807) (hw : Hp (srcM s sv HX) w) : Calls Try.prog 36 #[.pointer (some ⟨s, 0, none⟩), .int .i64 (most : Int)] w (Ret w (keys (srcM s sv HX)) (ReadsB HX s ys (bytesD most ys))) := by
  obtain ⟨a, c, rfl⟩ := hb.shape
  generalize hn : ys.length = n at *
  refine fn_enter (args := [_, _]) Try.func36 rfl Try.ntmps36 rfl hw ?_
  refine pn_seq ?_
  refine pn_plain [] rfl ?_
  refine TE_q rfl rfl (RD.assign rfl) rfl ?_
  refine TE_alloc rfl Try.zeroValue40 trivial rfl fun b5 hb5 => ?_
  refine TE_nil0 ?_
  refine pn_seq ?_
  refine pn_seq ?_
  refine pn_plain [] rfl ?_
  refine TE_q rfl rfl (RD.move rfl) rfl ?_
  refine TE_q rfl rfl (RD.ptr_eql_nil Try.runUnderlying74 rfl rfl) rfl ?_
  refine TE_nil0 ?_
  refine pn_condF rfl ?_
  refine pn_skip ?_
  refine pn_seq ?_
  refine pn_plain [] rfl ?_
  refine TE_q rfl rfl (RD.move rfl) rfl ?_
  refine TE_call rfl rfl trivial Try.call45 rfl rfl rfl (fun w hs' => c_back s b5 a n c w (hs'.hp.left.sub (.cons _ (.cons_cons _ (List.nil_sublist _))))) ?_
  rintro v10 H1 ⟨x2, x3, x5, rfl, rfl⟩ hxs
  refine TE_defer rfl trivial rfl rfl ?_
  refine TE_nil0 ?_
  refine pn_seq ?_
  refine pn_pickT [3, 0, 1, 2] [_, _, _, _] (srcM s (.slice a n c) HX) rfl rfl rfl ?_
  refine pn_plain [2, 3] rfl ?_
  refine TE_q rfl rfl (RD.move rfl) rfl ?_
  refine TE_q rfl rfl (RD.move rfl) rfl ?_
  refine TE_q rfl rfl (RD.as (RD.max2 rfl rfl) (show _ = Value.int .i64 (most : Int) by congr 1; split <;> omega)) rfl ?_
  refine TE_q rfl rfl (RD.as (RD.conv Try.runUnderlying3 Try.runUnderlying83 rfl) (u64_len (by omega))) rfl ?_
  refine TE_callT [_, _, _, _] (srcM s (.slice a n c) HX) rfl rfl rfl trivial Try.call46 rfl rfl rfl (fun e he => .inr (mem_keys.2 ⟨e, he, rfl⟩)) (fun w hs' => c_num HX s most _ ys w hb (by omega) (by omega) (hs'.hp.left.right (A := [_, _, _, _]))) ?_
  rintro v16 H4 (⟨k, r, v1, hd, rfl, rfl, hb1, hl1⟩ | ⟨e, v1, r, hd, he, rfl, rfl, hb1, hl1⟩) hX1
  all_goals refine TE_q rfl rfl (RD.move rfl) rfl ?_
  all_goals refine TE_q rfl rfl (RD.extract rfl rfl) rfl ?_
  all_goals refine TE_q rfl rfl (RD.extract rfl rfl) rfl ?_
  all_goals refine TE_q rfl rfl (RD.assign rfl) rfl ?_
  all_goals refine TE_store (i := 0) rfl Try.sizeOf40 trivial rfl rfl rfl rfl rfl rfl (.inl hb5) ?_
  all_goals refine TE_nil0 ?_
  all_goals refine pn_seq ?_
  all_goals refine pn_seq ?_
  all_goals refine pn_plain [] rfl ?_
  all_goals refine TE_l rfl rfl trivial rfl (RD.load (i := 0) Try.isAgg40 rfl rfl rfl) rfl ?_
  all_goals first | refine TE_q rfl rfl (RD.as (v := .bool true) (RD.neq rfl rfl) (by rw [decide_eq_false he]; rfl)) rfl ?_ | refine TE_q rfl rfl (RD.neq rfl rfl) rfl ?_
  all_goals refine TE_nil0 ?_
  all_goals first
    | (
        refine pn_condT rfl ?_
        refine pn_seq ?_
        refine pn_drawT [] [0] [1, 2, 3] [_, _, _, _] (srcM s v1 HX) rfl rfl (by kernel_rfl) (by kernel_rfl) rfl rfl ?_
        refine TE_l rfl rfl trivial rfl (RD.load (i := 0) Try.isAgg40 rfl rfl rfl) rfl ?_
        refine TE_q rfl rfl (RD.assign rfl) rfl ?_
        refine TE_store (i := 0) rfl Try.sizeOf40 trivial rfl rfl rfl rfl rfl rfl (.inl hb5) ?_
        refine TE_nil ?_
        refine pn_ret ?_
        obtain ⟨a9, c9, rfl⟩ := hb1.shape; exact lv_ret (lv_back (HX) (fun w h => (Hp.pickT (A := [_, _, _, _, _]) (T := HX) (is := [4, 1, 2, 3, 0]) (h) rfl rfl).perm (List.perm_append_comm (l₁ := [_]))) (hX1 (s, _) List.mem_cons_self) (lv_end rfl ⟨_, _, rfl, rfl, _, _, b5, 0, rfl, rfl, load_cell (i := 3) Try.isAgg40 rfl rfl, rfl⟩ (.inr ⟨e, _, ys, by simp only [bytesD, hd], he, rfl, rfl, by rw [if_neg he]; exact hb, by omega⟩) (fun w h => (Hp.pickT (A := [_, _, _, _, _]) (T := HX) (is := [0]) (h.perm (List.perm_append_comm (l₂ := [_]))) rfl rfl)) in_src)))
    | (
        refine pn_condF rfl ?_
        refine pn_skip ?_
        refine pn_seq ?_
        refine pn_plain [2] rfl ?_
        refine TE_q rfl rfl (RD.move rfl) rfl ?_
        refine TE_q rfl rfl (RD.move rfl) rfl ?_
        have hk := (numD_ok hd).2.1
        refine TE_q rfl rfl (RD.as (RD.conv Try.runUnderlying83 Try.runUnderlying3 rfl) (by rw [wrap64_id (by omega) (by omega)])) rfl ?_
        refine TE_callT [_, _, _, _] (srcM s v1 HX) rfl rfl rfl trivial Try.call44 rfl rfl rfl hX1 (fun w hs' => c_raw HX s k v1 r w hb1 (by omega) (hs'.hp.left.right (A := [_, _, _, _]))) ?_
        rintro v25 H3 (⟨b, r2, v2, x, H2, hd2, rfl, hr2, rfl, hb2, hl2⟩ | ⟨e, v2, r2, hd2, he, rfl, rfl, hb2, hl2⟩) hX2
        all_goals refine TE_q rfl rfl (RD.extract rfl rfl) rfl ?_
        all_goals refine TE_q rfl rfl (RD.extract rfl rfl) rfl ?_
        all_goals refine TE_q rfl rfl (RD.assign rfl) rfl ?_
        all_goals refine TE_store (i := 0) rfl Try.sizeOf40 trivial rfl rfl rfl rfl rfl rfl (.inl hb5) ?_
        all_goals refine TE_nil0 ?_
        all_goals refine pn_ret ?_
        all_goals (first | (obtain ⟨a9, c9, rfl⟩ := hb2.shape; exact lv_ret (lv_back (H2 ++ HX) (fun w h => (Hp.pickT (A := [_, _, _, _, _]) (T := H2 ++ HX) (is := [4, 1, 2, 3, 0]) (Hp.perm (A := [_, _, _, _] ++ (H2 ++ srcM s _ HX)) h (List.Perm.append_left _ List.perm_middle)) rfl rfl).perm (List.perm_append_comm (l₁ := [_]))) (hX2 (s, _) (List.mem_append_right _ List.mem_cons_self)) (lv_end rfl ⟨_, _, rfl, rfl, _, _, b5, 0, rfl, rfl, load_cell (i := 3) Try.isAgg40 rfl rfl, rfl⟩ (.inl ⟨b, r2, .slice a9 r2.length c9, x, H2, by simp only [bytesD, hd, hd2], rfl, hr2, rfl, hb2, by omega⟩) (fun w h => Hp.perm (A := (s, .cells #[.slice a9 r2.length c9] 88 (0, 0)) :: (H2 ++ HX)) ((Hp.pickT (A := [_, _, _, _, _]) (T := H2 ++ HX) (is := [0]) (h.perm (List.perm_append_comm (l₂ := [_]))) rfl rfl)) List.perm_middle.symm) (allA (Q := fun k => k ∈ _ ∨ _ ≤ k) (fun e he => (hX2 e (List.mem_append_left _ he)).symm) in_src)))) | (obtain ⟨a9, c9, rfl⟩ := hb2.shape; exact lv_ret (lv_back (HX) (fun w h => (Hp.pickT (A := [_, _, _, _, _]) (T := HX) (is := [4, 1, 2, 3, 0]) (h) rfl rfl).perm (List.perm_append_comm (l₁ := [_]))) (hX2 (s, _) List.mem_cons_self) (lv_end rfl ⟨_, _, rfl, rfl, _, _, b5, 0, rfl, rfl, load_cell (i := 3) Try.isAgg40 rfl rfl, rfl⟩ (.inr ⟨e, _, ys, by simp only [bytesD, hd, hd2], he, rfl, rfl, by rw [if_neg he]; exact hb, by omega⟩) (fun w h => (Hp.pickT (A := [_, _, _, _, _]) (T := HX) (is := [0]) (h.perm (List.perm_append_comm (l₂ := [_]))) rfl rfl)) in_src)))))
    | (
        first | refine pn_condD rfl (fun hc1 => ?_) (fun hc1 => ?_) | refine pn_condN rfl (fun hc1 => ?_) (fun hc1 => ?_) | refine pn_cond rfl (fun hc1 => ?_) (fun hc1 => ?_)
        · refine pn_seq ?_
          refine pn_drawT [] [0] [1, 2, 3] [_, _, _, _] (srcM s v1 HX) rfl rfl (by kernel_rfl) (by kernel_rfl) rfl rfl ?_
          refine TE_l rfl rfl trivial rfl (RD.load (i := 0) Try.isAgg40 rfl rfl rfl) rfl ?_
          refine TE_q rfl rfl (RD.assign rfl) rfl ?_
          refine TE_store (i := 0) rfl Try.sizeOf40 trivial rfl rfl rfl rfl rfl rfl (.inl hb5) ?_
          refine TE_nil ?_
          refine pn_ret ?_
          obtain ⟨a9, c9, rfl⟩ := hb1.shape; exact lv_ret (lv_back (HX) (fun w h => (Hp.pickT (A := [_, _, _, _, _]) (T := HX) (is := [4, 1, 2, 3, 0]) (h) rfl rfl).perm (List.perm_append_comm (l₁ := [_]))) (hX1 (s, _) List.mem_cons_self) (lv_end rfl ⟨_, _, rfl, rfl, _, _, b5, 0, rfl, rfl, load_cell (i := 3) Try.isAgg40 rfl rfl, rfl⟩ (.inr ⟨e, _, ys, by simp only [bytesD, hd], he, rfl, rfl, by rw [if_neg he]; exact hb, by omega⟩) (fun w h => (Hp.pickT (A := [_, _, _, _, _]) (T := HX) (is := [0]) (h.perm (List.perm_append_comm (l₂ := [_]))) rfl rfl)) in_src))
        · refine pn_skip ?_
          refine pn_seq ?_
          refine pn_plain [2] rfl ?_
          refine TE_q rfl rfl (RD.move rfl) rfl ?_
          refine TE_q rfl rfl (RD.move rfl) rfl ?_
          have hk := (numD_ok hd).2.1
          refine TE_q rfl rfl (RD.as (RD.conv Try.runUnderlying83 Try.runUnderlying3 rfl) (by rw [wrap64_id (by omega) (by omega)])) rfl ?_
          refine TE_callT [_, _, _, _] (srcM s v1 HX) rfl rfl rfl trivial Try.call44 rfl rfl rfl hX1 (fun w hs' => c_raw HX s k v1 r w hb1 (by omega) (hs'.hp.left.right (A := [_, _, _, _]))) ?_
          rintro v25 H3 (⟨b, r2, v2, x, H2, hd2, rfl, hr2, rfl, hb2, hl2⟩ | ⟨e, v2, r2, hd2, he, rfl, rfl, hb2, hl2⟩) hX2
          all_goals refine TE_q rfl rfl (RD.extract rfl rfl) rfl ?_
          all_goals refine TE_q rfl rfl (RD.extract rfl rfl) rfl ?_
          all_goals refine TE_q rfl rfl (RD.assign rfl) rfl ?_
          all_goals refine TE_store (i := 0) rfl Try.sizeOf40 trivial rfl rfl rfl rfl rfl rfl (.inl hb5) ?_
          all_goals refine TE_nil0 ?_
          all_goals refine pn_ret ?_
          all_goals (first | (obtain ⟨a9, c9, rfl⟩ := hb2.shape; exact lv_ret (lv_back (H2 ++ HX) (fun w h => (Hp.pickT (A := [_, _, _, _, _]) (T := H2 ++ HX) (is := [4, 1, 2, 3, 0]) (Hp.perm (A := [_, _, _, _] ++ (H2 ++ srcM s _ HX)) h (List.Perm.append_left _ List.perm_middle)) rfl rfl).perm (List.perm_append_comm (l₁ := [_]))) (hX2 (s, _) (List.mem_append_right _ List.mem_cons_self)) (lv_end rfl ⟨_, _, rfl, rfl, _, _, b5, 0, rfl, rfl, load_cell (i := 3) Try.isAgg40 rfl rfl, rfl⟩ (.inl ⟨b, r2, .slice a9 r2.length c9, x, H2, by simp only [bytesD, hd, hd2], rfl, hr2, rfl, hb2, by omega⟩) (fun w h => Hp.perm (A := (s, .cells #[.slice a9 r2.length c9] 88 (0, 0)) :: (H2 ++ HX)) ((Hp.pickT (A := [_, _, _, _, _]) (T := H2 ++ HX) (is := [0]) (h.perm (List.perm_append_comm (l₂ := [_]))) rfl rfl)) List.perm_middle.symm) (allA (Q := fun k => k ∈ _ ∨ _ ≤ k) (fun e he => (hX2 e (List.mem_append_left _ he)).symm) in_src)))) | (obtain ⟨a9, c9, rfl⟩ := hb2.shape; exact lv_ret (lv_back (HX) (fun w h => (Hp.pickT (A := [_, _, _, _, _]) (T := HX) (is := [4, 1, 2, 3, 0]) (h) rfl rfl).perm (List.perm_append_comm (l₁ := [_]))) (hX2 (s, _) List.mem_cons_self) (lv_end rfl ⟨_, _, rfl, rfl, _, _, b5, 0, rfl, rfl, load_cell (i := 3) Try.isAgg40 rfl rfl, rfl⟩ (.inr ⟨e, _, ys, by simp only [bytesD, hd, hd2], he, rfl, rfl, by rw [if_neg he]; exact hb, by omega⟩) (fun w h => (Hp.pickT (A := [_, _, _, _, _]) (T := HX) (is := [0]) (h.perm (List.perm_append_comm (l₂ := [_]))) rfl rfl)) in_src)))))

end Go.Proofs.Ytloljpefdecmhaa

namespace Go.Proofs.Ytloljpefdecmhaa
open Go Go.Mv
set_option maxRecDepth 8000
theorem elByteR : ElI Try.prog 5 1 1 (.int .u8 0) := by unfold ElI; kernel_rfl
end Go.Proofs.Ytloljpefdecmhaa

namespace Go.Proofs.Ytloljpefdecmhaa
open Go Go.Mv
set_option maxRecDepth 8000
/-- The dots that were met. -/
def MetOk (ds : List (Int × Int)) (l : List (ME (Int × Int) Int)) : Prop := ∀ k, mget k l = if k ∈ ds then some 1 else none
theorem MetOk.nil : MetOk [] [] := fun k => by simp [mget, mpos]
theorem MetOk.get {ds : List (Int × Int)} {l : List (ME (Int × Int) Int)} (h : MetOk ds l) (k : Int × Int) : (mget k l).getD 0 = if k ∈ ds then 1 else 0 := by
  rw [h k]; split <;> rfl
theorem MetOk.put {ds : List (Int × Int)} {l : List (ME (Int × Int) Int)} {c : Nat} (h : MetOk ds l) {k : Int × Int} (hk : k ∉ ds) : MetOk (ds ++ [k]) (mput k ((mget k l).getD 0 + 1) l c).1 := fun k' => by
  rw [mget_put, h.get, if_neg hk]
  by_cases h' : k' = k
  · subst h'; simp
  · rw [if_neg h', h k']; simp [h']

end Go.Proofs.Ytloljpefdecmhaa

namespace Go.Proofs.Ytloljpefdecmhaa
open Go Go.Mv Go.ChangeShapes
set_option maxRecDepth 100000
def intAt (cs : Array Value) (i : Nat) : Int := match cs[i]? with | some (.int _ n) => n | _ => 0
theorem has_u8 {n : Int} (h : IntKind.u8.has n) : 0 ≤ n ∧ n ≤ 255 := by simpa [IntKind.has, IntKind.min, IntKind.max, IntKind.signed, IntKind.bits] using h
section trod
variable {H : Type} {enc : TypeId × Value → H} {P : Program} {w : World} {base : Nat} {spare : Nat → Bool} {held : Bool}
theorem mapM_some {α β : Type} {f : α → Option β} : ∀ {l : List α} {r : List β}, l.mapM f = some r → ∀ a ∈ l, ∃ b, f a = some b
  | [], _, _, a, ha => by simp at ha
  | x :: l, r, h, a, ha => by
    simp only [List.mapM_cons, Option.bind_eq_bind, Option.bind_eq_some_iff, Option.pure_def, Option.some.injEq] at h
    obtain ⟨y, hy, ys, hys, _⟩ := h
    rcases List.mem_cons.1 ha with rfl | ha
    · exact ⟨y, hy⟩
    · exact mapM_some hys a ha
theorem mapM_at {β : Type} {f : Nat → Option β} : ∀ {n : Nat} {r : List β}, (List.range n).mapM f = some r → ∀ i, i < n → f i = r[i]?
  | n, r, h, i, hi => by
    have h2 : ∀ {l : List Nat} {r : List β}, l.mapM f = some r → ∀ (i : Nat) (a : Nat), l[i]? = some a → f a = r[i]? := by
      intro l
      induction l with
      | nil => intro r _ i a ha; simp at ha
      | cons x l ih =>
        intro r h i a ha
        simp only [List.mapM_cons, Option.bind_eq_bind, Option.bind_eq_some_iff, Option.pure_def, Option.some.injEq] at h
        obtain ⟨y, hy, ys, hys, rfl⟩ := h
        cases i with
        | zero => simp only [List.getElem?_cons_zero, Option.some.injEq] at ha ⊢; rw [← ha]; exact hy
        | succ i => rw [List.getElem?_cons_succ] at ha ⊢; exact ih hys i a ha
    exact h2 h i i (by simp [hi])
/-- A struct's field. -/
theorem trod_field {n : Nat} {t : TypeId} {cs : List Value} {x : DataW H × List MemPlace} {fs : Array Field} (ht : P.underlying t = some (.struct fs)) (h : DataW.trod enc P w base spare held n t cs = some x) :
    cs.length = P.cellsOf t ∧ ∀ (j : Nat) (f : Field), fs[j]? = some f → ∃ m y, DataW.trod enc P w base spare held m f.type ((cs.drop f.offset).take (P.cellsOf f.type)) = some y := by
  cases n with
  | zero => simp [DataW.trod] at h
  | succ n =>
    unfold DataW.trod at h
    rw [ht] at h
    simp only at h
    split at h
    · rename_i hl
      cases hm : (fs.toList.mapM fun f => DataW.trod enc P w base spare held n f.type ((cs.drop f.offset).take (P.cellsOf f.type))) with
      | none => rw [hm] at h; simp at h
      | some xs => exact ⟨hl, fun j f hf => ⟨n, mapM_some hm f (by simpa using Array.mem_of_getElem? hf)⟩⟩
    · cases h
theorem trod_elem {n len : Nat} {t e : TypeId} {cs : List Value} {x : DataW H × List MemPlace} (ht : P.underlying t = some (.array len e)) (h : DataW.trod enc P w base spare held n t cs = some x) :
    cs.length = P.cellsOf t ∧ ∀ j, j < len → ∃ m y, DataW.trod enc P w base spare held m e ((cs.drop (j * P.cellsOf e)).take (P.cellsOf e)) = some y := by
  cases n with
  | zero => simp [DataW.trod] at h
  | succ n =>
    unfold DataW.trod at h
    rw [ht] at h
    simp only at h
    split at h
    · rename_i hl
      cases hm : ((List.range len).mapM fun i => DataW.trod enc P w base spare held n e ((cs.drop (i * P.cellsOf e)).take (P.cellsOf e))) with
      | none => rw [hm] at h; simp at h
      | some xs => exact ⟨hl, fun j hj => ⟨n, mapM_some hm j (by simpa using hj)⟩⟩
    · cases h
theorem wf_has {k : IntKind} {n : Int} (h : (Lit.int k n).wf = true) : k.has n := by simpa [Lit.wf, IntKind.has] using h
theorem trod_ints {n len : Nat} {t e : TypeId} {k : IntKind} {cs : List Value} {x : DataW H × List MemPlace} (ht : P.underlying t = some (.array len e)) (he : P.underlying e = some (.int k)) (hc : P.cellsOf e = 1) (h : DataW.trod enc P w base spare held n t cs = some x) :
    cs.length = P.cellsOf t ∧ ∀ j, j < len → ∃ z, cs[j]? = some (.int k z) ∧ k.has z := by
  obtain ⟨hl, hj⟩ := trod_elem ht h
  refine ⟨hl, fun j hlt => ?_⟩
  obtain ⟨m, y, hy⟩ := hj j hlt
  rw [hc, Nat.mul_one] at hy
  obtain ⟨z, hz, _, hwf⟩ := DataW.trod_int he hy
  refine ⟨z, ?_, wf_has hwf⟩
  have := congrArg (fun l : List Value => l[0]?) hz
  simpa [List.getElem?_take, List.getElem?_drop] using this
theorem at0 {l : List Value} {o n : Nat} {v : Value} (h : (l.drop o).take n = [v]) : l[o]? = some v := by
  have := congrArg (fun l : List Value => l[0]?) h
  simp only [List.getElem?_cons_zero] at this
  rw [← this, List.getElem?_take, List.getElem?_drop]
  split
  · rfl
  · rename_i hn
    have : n = 0 := by omega
    subst this; simp at h
theorem atj {l : List Value} {o n j : Nat} (hj : j < n) : ((l.drop o).take n)[j]? = l[o + j]? := by rw [List.getElem?_take, if_pos hj, List.getElem?_drop]
end trod
theorem build_list {α : Type} {ok : α → Prop} {Q : Nat → α → Prop} : ∀ {n : Nat}, (∀ i, i < n → ∃ x, ok x ∧ Q i x) → ∃ l : List α, l.length = n ∧ (∀ x ∈ l, ok x) ∧ ∀ i x, l[i]? = some x → Q i x
  | 0, _ => ⟨[], rfl, by simp, by simp⟩
  | k + 1, each => by
    obtain ⟨l, h1, h2, h3⟩ := build_list (n := k) (fun i hi => each i (by omega))
    obtain ⟨x, hx, hxc⟩ := each k (by omega)
    refine ⟨l ++ [x], by simp [h1], fun y hy => ?_, fun i y hi => ?_⟩
    · rcases List.mem_append.1 hy with hy | hy
      · exact h2 y hy
      · simp only [List.mem_cons, List.not_mem_nil, or_false] at hy; subst hy; exact hx
    · by_cases hik : i < l.length
      · rw [List.getElem?_append_left hik] at hi; exact h3 i y hi
      · rw [List.getElem?_append_right (by omega)] at hi
        have h0 : i - l.length = 0 := by
          have := (List.getElem?_eq_some_iff.1 hi).1
          simp at this; omega
        rw [h0] at hi
        simp only [List.getElem?_cons_zero, Option.some.injEq] at hi
        subst hi
        have : i = k := by omega
        subst this; exact hxc
/-- Elements of several cells that come in. -/
theorem open_list {H : Type} {α : Type} {P : Program} {ec : α → List Value} {sz : Nat} {ok : α → Prop} {t e : TypeId} {enc : TypeId × Value → H} {W : World} {r : Reach} {b0 : Nat} {v : Value} {d : DataW H} {p : List MemPlace} (ht : P.underlying t = some (.slice e)) (hsz : P.cellsOf e = sz) (hs0 : 0 < sz) (hk : ∀ x, (ec x).length = sz)
    (hel : ∀ n cs x, DataW.trod enc P W 0 (fun _ => true) true n e cs = some x → ∃ a, cs = ec a ∧ ok a) (hval : Value.okWide P W r b0 t v) (h : DataW.Trod enc P W 0 (fun _ => true) true t v d p) (HZ : Mem) (hH : Hp HZ W) :
    ∃ HA l, Hp (HA ++ HZ) W ∧ Rdx sz ec (HA ++ HZ) v l ∧ (∀ x ∈ l, ok x) ∧ l.length ≤ 9223372036854775807 := by
  obtain ⟨a0, l0, c0, rfl⟩ := WideShapes.okWide_slice ht hval
  simp only [Value.okWide, ht, Cell.okWide, Cell.ok] at hval
  obtain ⟨n, hn⟩ := h
  rcases DataW.trod_slice ht hn with ⟨hcs, _⟩ | ⟨a, len, cap, elems, rest, m, _, hcs, _, _, hl, hm, hlen, hels, _, _⟩
  · simp [Value.cells] at hcs
    obtain ⟨rfl, rfl, rfl⟩ := hcs
    exact ⟨[], [], hH, .inl ⟨rfl, rfl⟩, by simp, by simp⟩
  · simp [Value.cells] at hcs
    obtain ⟨rfl, rfl, rfl⟩ := hcs
    obtain ⟨_, _, hhas⟩ := hval
    obtain ⟨_, hspot, _⟩ := hhas
    obtain ⟨bb, off, sp⟩ := a
    simp only at hspot
    subst hspot
    have hm63 : l0 ≤ 9223372036854775807 := by have : c0 ≤ 9223372036854775807 := hm; omega
    have each : ∀ i, i < l0 → ∃ x, ok x ∧ ∀ j u, (ec x)[j]? = some u → W.cell? ⟨bb, off + i * sz + j, none⟩ = some u := fun i hi => by
      have h1 := hels i hi
      have h2 : elems[i]? = some elems[i] := List.getElem?_eq_getElem (by omega)
      rw [h2] at h1
      cases hc : W.cells? 0 ((⟨bb, off, none⟩ : Addr).add (i * P.cellsOf e)) (P.cellsOf e) with
      | none => rw [hc] at h1; simp at h1
      | some cs =>
        rw [hc] at h1
        obtain ⟨x, rfl, hx⟩ := hel _ _ _ h1
        refine ⟨x, hx, fun j u hu => ?_⟩
        rw [hsz, add_none] at hc
        simp only [World.cells?, Nat.zero_le, if_true] at hc
        have hj : j < sz := by rw [← hk x]; exact (List.getElem?_eq_some_iff.1 hu).1
        have := mapM_at hc j hj
        rw [hu] at this
        simpa [add_none] using this
    have hx := build_list each
    obtain ⟨l, hll, hlo, hlc⟩ := hx
    subst hll
    by_cases h0 : l = []
    · subst h0
      exact ⟨[], [], hH, .inr ⟨bb, off, c0, rfl, Nat.zero_le _, by simp⟩, by simp, by simp⟩
    · have hpos : 0 < l.length := List.length_pos_iff.2 h0
      have hfirst := hlc 0 l[0] (List.getElem?_eq_getElem hpos) 0 ((ec l[0])[0]'(by rw [hk]; exact hs0)) (List.getElem?_eq_getElem _)
      have hblk : bb < W.heap.size := block_lt_of_cell hfirst
      have hbb : W.heap[bb]? = some W.heap[bb] := Array.getElem?_eq_getElem hblk
      have hcells : ∀ w : World, w.heap[bb]? = some W.heap[bb] → ∀ i x, l[i]? = some x → ∀ j u, (ec x)[j]? = some u → w.cell? ⟨bb, off + i * sz + j, none⟩ = some u := fun w hw i x hi j u hu => by
        rw [← hlc i x hi j u hu]
        exact World.cell?_of_block (hw.trans hbb.symm)
      by_cases hz : ∃ o, (bb, o) ∈ HZ
      · obtain ⟨o, ho⟩ := hz
        have : o = W.heap[bb] := Option.some.inj ((hH.at_ _ ho).symm.trans hbb)
        subst this
        exact ⟨[], l, hH, .inr ⟨bb, off, c0, rfl, hl, fun w hw => hcells w (hw.at_ _ ho)⟩, hlo, hm63⟩
      · refine ⟨[(bb, W.heap[bb])], l, ⟨fun e he => ?_, ?_⟩, .inr ⟨bb, off, c0, rfl, hl, fun w hw => hcells w (hw.at_ (bb, _) (by simp))⟩, hlo, hm63⟩
        · rcases List.mem_append.1 he with he | he
          · simp only [List.mem_cons, List.not_mem_nil, or_false] at he; subst he; exact hbb
          · exact hH.at_ e he
        · refine List.pairwise_cons.2 ⟨fun e he h => hz ⟨e.2, ?_⟩, hH.ne⟩
          have he2 : (bb, e.2) = e := Prod.ext h rfl
          rw [he2]; exact he

end Go.Proofs.Ytloljpefdecmhaa

namespace Go.Proofs.Ytloljpefdecmhaa
open Go Go.Mv
set_option maxRecDepth 8000
/-- Where a list has the first such one. -/
def IdxF (p : Rec → Bool) (l : List Rec) (n : Int) : Prop := (n = -1 ∧ ∀ x ∈ l, p x = false) ∨ ∃ (i : Nat) (x : Rec), n = i ∧ l[i]? = some x ∧ p x = true ∧ ∀ (j : Nat) (y : Rec), j < i → l[j]? = some y → p y = false
theorem IdxF.any {p : Rec → Bool} {l : List Rec} {n : Int} (h : IdxF p l n) : decide (n ≥ 0) = l.any p := by
  rcases h with ⟨rfl, h⟩ | ⟨i, x, rfl, hx, hp, _⟩
  · rw [List.any_eq_false.2 (fun x hx => by simp [h x hx])]; rfl
  · rw [List.any_eq_true.2 ⟨x, List.mem_of_getElem? hx, hp⟩]; exact decide_eq_true (by omega)

end Go.Proofs.Ytloljpefdecmhaa

namespace Go.Proofs.Ytloljpefdecmhaa
open Go Go.Mv
set_option maxRecDepth 8000
theorem c_bytesCmp (f g : Nat → Int) (b1 b2 : Nat) (w : World) (hf : IdOk f) (hg : IdOk g) (hH : Hp [(b1, .cells (idV f).cells 25 (0, 0)), (b2, .cells (idV g).cells 25 (0, 0))] w) : Calls Try.prog 101 #[.slice (some ⟨b1, 0, none⟩) 32 32, .slice (some ⟨b2, 0, none⟩) 32 32] w (Ret w [] fun v H1 => v = .int .i64 (idCmp f g) ∧ H1 = []) := by
  refine fn_enter (args := [_, _]) Try.func101 rfl Try.ntmps101 rfl hH ?_
  refine pn_seq ?_
  refine pn_plain [] rfl ?_
  refine TE_q rfl rfl (RD.assign rfl) rfl ?_
  refine TE_nil0 ?_
  refine pn_seq ?_
  refine pn_plain [] rfl ?_
  refine TE_q rfl rfl (RD.move rfl) rfl ?_
  refine TE_q rfl rfl (RD.move rfl) rfl ?_
  refine TE_l rfl rfl trivial rfl (RD.call_extern rfl rfl (fun w hw => run_cmpIds (o1 := 0) (o2 := 0) Try.func112 (by kernel_rfl) (by kernel_rfl) (by kernel_rfl) (by kernel_rfl) hf hg (id_slice (i := 0) hw rfl) (id_slice (i := 1) hw rfl))) rfl ?_
  refine TE_q rfl rfl (RD.assign rfl) rfl ?_
  refine TE_nil0 ?_
  refine pn_ret ?_
  exact pn_done rfl rfl ⟨rfl, rfl⟩ (List.nil_sublist _) (by simp)

theorem c_hashCmp (f g : Nat → Int) (w : World) (hf : IdOk f) (hg : IdOk g) : Calls Try.prog 97 #[idV f, idV g] w (Ret w [] fun v H1 => v = .int .i64 (idCmp f g) ∧ H1 = []) := by
  refine fn_enter (args := [_, _]) Try.func97 rfl Try.ntmps97 rfl (Hp.nil w) ?_
  refine pn_seq ?_
  refine pn_plain [] rfl ?_
  refine TE_box rfl rfl trivial rfl fun b2 hb2 => ?_
  refine TE_box rfl rfl trivial rfl fun b3 hb3 => ?_
  refine TE_q rfl rfl (RD.assign rfl) rfl ?_
  refine TE_nil0 ?_
  refine pn_seq ?_
  refine pn_seq ?_
  refine pn_plain [] rfl ?_
  refine TE_l rfl rfl trivial rfl (RD.loadA (i := 1) Try.isAgg25 Try.sizeOf25 rfl rfl (Nat.le_of_ble_eq_true rfl) (id_all _)) rfl ?_
  refine TE_l rfl rfl trivial rfl (RD.loadA (i := 0) Try.isAgg25 Try.sizeOf25 rfl rfl (Nat.le_of_ble_eq_true rfl) (id_all _)) rfl ?_
  refine TE_q rfl rfl (RD.eql_agg Try.eqGuardType25 (eq_id f g) rfl rfl) rfl ?_
  refine TE_nil0 ?_
  first | refine pn_condD rfl (fun hc0 => ?_) (fun hc0 => ?_) | refine pn_condN rfl (fun hc0 => ?_) (fun hc0 => ?_) | refine pn_cond rfl (fun hc0 => ?_) (fun hc0 => ?_)
  · refine pn_seq ?_
    refine pn_plain [] rfl ?_
    refine TE_q rfl rfl (RD.assign rfl) rfl ?_
    refine TE_nil0 ?_
    refine pn_ret ?_
    exact pn_done rfl rfl ⟨by rw [idCmp_zero.2 (sameN_iff.1 (by simpa using hc0))]; rfl, rfl⟩ (List.nil_sublist _) (by simp)
  · refine pn_skip ?_
    refine pn_seq ?_
    refine pn_draw [] [] [0, 1] rfl (by kernel_rfl) (by kernel_rfl) rfl rfl ?_
    refine TE_q rfl rfl (RD.sliceA Try.runUnderlying25 Try.sizeOf5 rfl rfl (Nat.le_refl _)) rfl ?_
    refine TE_q rfl rfl (RD.sliceA Try.runUnderlying25 Try.sizeOf5 rfl rfl (Nat.le_refl _)) rfl ?_
    refine TE_call rfl rfl trivial Try.call101 rfl rfl rfl (fun w hs' => c_bytesCmp f g b2 b3 w hf hg (hs'.hp.sp (fun a => by simp -failIfUnchanged <;> omega))) ?_
    rintro v10 H2 ⟨rfl, rfl⟩ -
    refine TE_q rfl rfl (RD.assign rfl) rfl ?_
    refine TE_nil ?_
    refine pn_ret ?_
    exact pn_done rfl rfl ⟨rfl, rfl⟩ (List.nil_sublist _) (by simp)

def sameIL : List (Nat → Int) → List (Nat → Int) → Bool
  | [], [] => true
  | x :: xs, y :: ys => sameN 32 x y && sameIL xs ys
  | _, _ => false
theorem elId : ElI Try.prog 25 32 32 (idV fun _ => 0) := by unfold ElI; kernel_rfl
end Go.Proofs.Ytloljpefdecmhaa

namespace Go.Proofs.Ytloljpefdecmhaa
open Go Go.Mv
set_option maxRecDepth 8000
theorem c_cloneI (H : Mem) (xv : Value) (ys : List (Nat → Int)) (w : World) (hH : Hp H w) (hb : Rdx 32 idC H xv ys) (hlen : ys.length ≤ 1000000) : Calls Try.prog 24 #[xv] w (Ret w [] fun v H1 => ∃ st, BldOk 32 idC ys st ∧ v = bldVx ys st ∧ H1 = bldMx 25 idC ys st) := by
  rcases hb with ⟨rfl, rfl⟩ | ⟨b, off, cap, rfl, hcap, hcell⟩
  · refine fn_enter (args := [_]) Try.func24 rfl Try.ntmps24 rfl hH ?_
    refine pn_seq ?_
    refine pn_plain [] rfl ?_
    refine TE_q rfl rfl (RD.assign rfl) rfl ?_
    refine TE_nil0 ?_
    refine pn_seq ?_
    refine pn_seq ?_
    refine pn_plain [] rfl ?_
    refine TE_q rfl rfl (RD.move rfl) rfl ?_
    refine TE_q rfl rfl (RD.sl_eql_nil Try.runUnderlying26 rfl rfl) rfl ?_
    refine TE_nil0 ?_
    refine pn_condT rfl ?_
    refine pn_seq ?_
    refine pn_plain [] rfl ?_
    refine TE_q rfl rfl (RD.assign rfl) rfl ?_
    refine TE_nil0 ?_
    refine pn_ret ?_
    exact pn_done (H1 := []) rfl rfl ⟨none, rfl, rfl, rfl⟩ (List.nil_sublist _) (by simp)
  · have hb : Rdx 32 idC H (.slice (some ⟨b, off, none⟩) ys.length cap) ys := .inr ⟨b, off, cap, rfl, hcap, hcell⟩
    refine fn_enter (args := [_]) Try.func24 rfl Try.ntmps24 rfl hH ?_
    refine pn_seq ?_
    refine pn_plain [] rfl ?_
    refine TE_q rfl rfl (RD.assign rfl) rfl ?_
    refine TE_nil0 ?_
    refine pn_seq ?_
    refine pn_seq ?_
    refine pn_plain [] rfl ?_
    refine TE_q rfl rfl (RD.move rfl) rfl ?_
    refine TE_q rfl rfl (RD.sl_eql_nil Try.runUnderlying26 rfl rfl) rfl ?_
    refine TE_nil0 ?_
    refine pn_condF rfl ?_
    refine pn_skip ?_
    refine pn_seq ?_
    refine pn_plain [] rfl ?_
    refine TE_buildSlice0 rfl Try.runUnderlying26 Try.sizeOf25 trivial rfl fun b5 hb5 => ?_
    refine TE_q rfl rfl (RD.move rfl) rfl ?_
    refine TE_appendX (st := some (b5, 0, [])) (l := []) H idC_len idC_one rfl rfl rfl rfl trivial rfl Try.underlying26 elId rfl rfl rfl ⟨Nat.le_refl _, by decide, rfl⟩ hb (fun _ hw => hw.sp (fun a => by simp -failIfUnchanged <;> omega)) (by simp; omega) rfl (bldx_all (fun k => w.heap.size ≤ k ∨ k ∈ []) (by rintro b cap tl ⟨⟩; exact .inl hb5)) ?_
    intro st hok hX _
    refine TE_q rfl rfl (RD.assign rfl) rfl ?_
    refine TE_nil0 ?_
    refine pn_ret ?_
    exact pn_done rfl rfl ⟨st, hok, rfl, rfl⟩ (List.sublist_append_left _ _) (fun e he => (hX e he).symm)

theorem zeroI_one : ∀ v ∈ ((idV fun _ => 0).cells).toList, v.oneCell' = true := List.all_eq_true.1 rfl
theorem zeroI_ok : IdOk fun _ => 0 := fun _ => by show (0 : Int) ≤ 0 ∧ (0 : Int) ≤ 255; omega
theorem setOf_self {l : List (Nat → Int)} (h : l.length < 2) : SetOf l l := by
  match l, h with
  | [], _ => exact SetOf.nil
  | [x], _ => exact ⟨by simp, fun _ => Iff.rfl⟩
theorem setOf_take {l : List (Nat → Int)} {k : Nat} (h : SetOf (l.take k) (l.take k)) (hk : l.length ≤ k) : SetOf l l := by rwa [List.take_of_length_le hk] at h

set_option maxHeartbeats 1000000 in
theorem c_compact (HC : Mem) (l : List (Nat → Int)) (st : SnkS) (w : World) (hbo : BldOk 32 idC l st) (hcan : ∀ x ∈ l, IdCan x) (hsort : l.Pairwise fun x y => ¬ idCmp y x < 0) (hlen : l.length ≤ 1000000) (hH : Hp (bldMx 25 idC l st ++ HC) w) : Calls Try.prog 98 #[bldVx l st] w (Ret w (keys (bldMx 25 idC l st)) fun r H1 => ∃ xs st', SetOf l xs ∧ BldOk 32 idC xs st' ∧ r = bldVx xs st' ∧ H1 = bldMx 25 idC xs st') := by
  have hRl : Rdx 32 idC (bldMx 25 idC l st) (bldVx l st) l := hbo.rdx idC_len
  refine fn_enter (args := [_]) Try.func98 rfl Try.ntmps98 rfl hH ?_
  refine pn_seq ?_
  refine pn_plain [] rfl ?_
  refine TE_q rfl rfl (RD.assign rfl) rfl ?_
  refine TE_nil0 ?_
  refine pn_seq ?_
  refine pn_seq ?_
  refine pn_plain [1] rfl ?_
  refine TE_q rfl rfl (RD.move rfl) rfl ?_
  refine TE_q rfl rfl (RD.lenX Try.runUnderlying26 rfl hRl) rfl ?_
  refine TE_q rfl rfl (RD.lss rfl rfl) rfl ?_
  refine TE_nil0 ?_
  first | refine pn_condD rfl (fun hc0 => ?_) (fun hc0 => ?_) | refine pn_condN rfl (fun hc0 => ?_) (fun hc0 => ?_) | refine pn_cond rfl (fun hc0 => ?_) (fun hc0 => ?_)
  · refine pn_seq ?_
    refine pn_plain [] rfl ?_
    refine TE_q rfl rfl (RD.move rfl) rfl ?_
    refine TE_q rfl rfl (RD.assign rfl) rfl ?_
    refine TE_nil0 ?_
    refine pn_ret ?_
    exact pn_done rfl rfl ⟨l, st, setOf_self (by omega), hbo, rfl, rfl⟩ (List.sublist_append_left _ _) (fun e he => .inl (List.mem_map_of_mem he))
  · refine pn_skip ?_
    refine pn_seq ?_
    refine pn_seq ?_
    have hq9 := hbo.some_of (fun h => hc0 (by rw [h]; decide)); obtain ⟨b0, cap0, tl0, rfl⟩ := hq9
    refine pn_plain [] rfl ?_
    refine TE_q rfl rfl (RD.assign rfl) rfl ?_
    refine TE_nil0 ?_
    refine pn_block ?_
    refine pn_loop (σ := Nat) (fun k => [(3, .int .i64 (k : Int)), (0, .slice (some ⟨b0, 0, none⟩) l.length cap0)]) (fun _ => bldMx 25 idC l (some (b0, cap0, tl0)) ++ HC) (fun k => 1 ≤ k ∧ k ≤ l.length ∧ SetOf (l.take k) (l.take k)) (fun k => l.length - k) 1 ⟨Nat.le_refl _, by omega, setOf_self (by rw [List.length_take]; omega)⟩ ⟨rfl, rfl, trivial⟩ (List.Sublist.refl _) ?_
    rintro k ⟨hk1, hk2, hset⟩
    refine pn_seq ?_
    refine pn_seq ?_
    refine pn_plain [2] rfl ?_
    refine TE_q rfl rfl (RD.move rfl) rfl ?_
    refine TE_q rfl rfl (RD.move rfl) rfl ?_
    refine TE_q rfl rfl (RD.lenX Try.runUnderlying26 rfl hRl) rfl ?_
    refine TE_q rfl rfl (RD.lss rfl rfl) rfl ?_
    refine TE_nil0 ?_
    first | refine pn_condD rfl (fun hc1 => ?_) (fun hc1 => ?_) | refine pn_condN rfl (fun hc1 => ?_) (fun hc1 => ?_) | refine pn_cond rfl (fun hc1 => ?_) (fun hc1 => ?_)
    · refine pn_skip ?_
      refine pn_seq ?_
      refine pn_block ?_
      refine pn_seq ?_
      have hkl : k < l.length := (by omega); have hq9 : ∃ x, l[k]? = some x := ⟨_, List.getElem?_eq_getElem hkl⟩; obtain ⟨x, hx⟩ := hq9; have hq9 : ∃ p, l[k - 1]? = some p := ⟨_, List.getElem?_eq_getElem (by omega)⟩; obtain ⟨p, hp⟩ := hq9; have hcx := hbo.cell (u := 25) idC_len hx; have hcp := hbo.cell (u := 25) idC_len hp; have hnx := srt_next (m := k - 1) hsort hcan (by rw [show k - 1 + 1 = k from by omega]; exact hset) hp (by rw [show k - 1 + 1 = k from by omega]; exact hx); rw [show k - 1 + 1 = k from by omega] at hnx
      refine pn_drawT [3, 8] [] [] [] (bldMx 25 idC l (some (b0, cap0, tl0)) ++ HC) rfl rfl (by kernel_rfl) (by kernel_rfl) rfl rfl ?_
      refine TE_q rfl rfl (RD.move rfl) rfl ?_
      refine TE_q rfl rfl (RD.move rfl) rfl ?_
      refine TE_q rfl rfl (RD.indexX (i := k) (len := l.length) (cap := cap0) (b := b0) (off := 0) Try.runUnderlying26 Try.sizeOf25 rfl rfl rfl hkl) rfl ?_
      refine TE_q rfl rfl (RD.as (v := idV x) (RD.loadX (vs := idC x) Try.isAgg25 Try.sizeOf25 rfl rfl (fun w hw j u hu => hcx w (hw.sp (fun a => by simp -failIfUnchanged <;> omega)) j u hu)) (idC_agg _)) rfl ?_
      refine TE_q rfl rfl (RD.move rfl) rfl ?_
      refine TE_q rfl rfl (RD.move rfl) rfl ?_
      refine TE_q rfl rfl (RD.subI rfl rfl (by omega) (by omega)) rfl ?_
      refine TE_q rfl rfl (RD.indexX (i := k - 1) (len := l.length) (cap := cap0) (b := b0) (off := 0) Try.runUnderlying26 Try.sizeOf25 rfl rfl (by omega) (by omega)) rfl ?_
      refine TE_q rfl rfl (RD.as (v := idV p) (RD.loadX (vs := idC p) Try.isAgg25 Try.sizeOf25 rfl rfl (fun w hw j u hu => hcp w (hw.sp (fun a => by simp -failIfUnchanged <;> omega)) j u hu)) (idC_agg _)) rfl ?_
      refine TE_q rfl rfl (RD.eql_agg Try.eqGuardType25 (eq_id x p) rfl rfl) rfl ?_
      refine TE_nil ?_
      first | refine pn_condD rfl (fun hc2 => ?_) (fun hc2 => ?_) | refine pn_condN rfl (fun hc2 => ?_) (fun hc2 => ?_) | refine pn_cond rfl (fun hc2 => ?_) (fun hc2 => ?_)
      · refine pn_seq ?_
        refine pn_plain [] rfl ?_
        refine TE_q rfl rfl (RD.move rfl) rfl ?_
        refine TE_q rfl rfl (RD.move rfl) rfl ?_
        refine TE_q rfl rfl (RD.as (v := .slice (some ⟨b0, 0 + k * 32, none⟩) (l.length - k) (cap0 - k)) (RD.sliceX (l := k) (h := l.length) Try.runUnderlying26 Try.sizeOf25 rfl hRl ⟨_, rfl⟩ rfl (by omega) (Nat.le_refl _)) (by have hcl : l.length ≤ cap0 := hbo.1; show subVx 32 k l.length (.slice (some ⟨b0, 0, none⟩) l.length cap0) = _; simp only [subVx]; rw [if_neg (by omega)])) rfl ?_
        refine TE_q rfl rfl (RD.assign rfl) rfl ?_
        refine TE_nil0 ?_
        refine pn_seq ?_
        refine pn_seq ?_
        refine pn_plain [] rfl ?_
        refine TE_q rfl rfl (RD.assign rfl) rfl ?_
        refine TE_nil0 ?_
        refine pn_block ?_
        obtain ⟨k0, rfl⟩ : ∃ k0, k0 = k := ⟨k, rfl⟩; refine pn_loop (σ := Nat × Nat × List (Nat → Int)) (fun q => [(5, .int .i64 (q.2.1 : Int)), (3, .int .i64 (q.1 : Int)), (4, .slice (some ⟨b0, 0 + k0 * 32, none⟩) (l.length - k0) (cap0 - k0)), (0, .slice (some ⟨b0, 0, none⟩) l.length cap0)]) (fun q => bldMx 25 idC q.2.2 (some (b0, cap0, tl0)) ++ HC) (fun q => k0 ≤ q.1 ∧ q.1 < k0 + q.2.1 ∧ 1 ≤ q.2.1 ∧ k0 + q.2.1 ≤ l.length ∧ q.2.2.length = l.length ∧ BldOk 32 idC q.2.2 (some (b0, cap0, tl0)) ∧ SetOf (l.take (k0 + q.2.1)) (q.2.2.take q.1) ∧ ∀ j, k0 + q.2.1 - 1 ≤ j → q.2.2[j]? = l[j]?) (fun q => l.length - q.2.1) (k0, 1, l) ⟨Nat.le_refl _, Nat.lt_succ_self _, Nat.le_refl _, by show k0 + 1 ≤ l.length; omega, rfl, hbo, hnx.1 (by simpa using hc2), fun _ _ => rfl⟩ ⟨rfl, rfl, rfl, rfl, trivial⟩ (List.Sublist.refl _) ?_
        rintro ⟨k, k2, zs⟩ ⟨hk3, hk4, hk5, hk6, hzl, hbz, hset2, hdr⟩; dsimp only at hk3 hk4 hk5 hk6 hzl hset2 hdr ⊢; have hbz : BldOk 32 idC zs (some (b0, cap0, tl0)) := hbz
        refine pn_seq ?_
        refine pn_seq ?_
        refine pn_plain [2] rfl ?_
        refine TE_q rfl rfl (RD.move rfl) rfl ?_
        refine TE_q rfl rfl (RD.move rfl) rfl ?_
        refine TE_q rfl rfl (RD.len_slice Try.runUnderlying26 rfl) rfl ?_
        refine TE_q rfl rfl (RD.lss rfl rfl) rfl ?_
        refine TE_nil0 ?_
        first | refine pn_condD rfl (fun hc3 => ?_) (fun hc3 => ?_) | refine pn_condN rfl (fun hc3 => ?_) (fun hc3 => ?_) | refine pn_cond rfl (fun hc3 => ?_) (fun hc3 => ?_)
        · refine pn_skip ?_
          refine pn_seq ?_
          refine pn_block ?_
          refine pn_seq ?_
          have hjl : k0 + k2 < l.length := (by omega); have hq9 : ∃ x, l[k0 + k2]? = some x := ⟨_, List.getElem?_eq_getElem hjl⟩; obtain ⟨y, hy⟩ := hq9; have hq9 : ∃ q, l[k0 + k2 - 1]? = some q := ⟨_, List.getElem?_eq_getElem (by omega)⟩; obtain ⟨q, hq⟩ := hq9; have hyz := hdr (k0 + k2) (by omega); have hqz := hdr (k0 + k2 - 1) (by omega); rw [hy] at hyz; rw [hq] at hqz; have hcy := hbz.cell (u := 25) idC_len hyz; have hcq := hbz.cell (u := 25) idC_len hqz; rw [show 0 + (k0 + k2) * 32 = 0 + k0 * 32 + k2 * 32 from by omega] at hcy; rw [show 0 + (k0 + k2 - 1) * 32 = 0 + k0 * 32 + (k2 - 1) * 32 from by omega] at hcq; have hnx := srt_next (m := k0 + k2 - 1) hsort hcan (by rw [show k0 + k2 - 1 + 1 = k0 + k2 from by omega]; exact hset2) hq (by rw [show k0 + k2 - 1 + 1 = k0 + k2 from by omega]; exact hy); rw [show k0 + k2 - 1 + 1 = k0 + k2 from by omega] at hnx
          refine pn_drawT [3, 8] [] [] [] (bldMx 25 idC zs (some (b0, cap0, tl0)) ++ HC) rfl rfl (by kernel_rfl) (by kernel_rfl) rfl rfl ?_
          refine TE_q rfl rfl (RD.move rfl) rfl ?_
          refine TE_q rfl rfl (RD.move rfl) rfl ?_
          refine TE_q rfl rfl (RD.indexX (i := k2) (len := l.length - k0) (cap := cap0 - k0) (b := b0) (off := 0 + k0 * 32) Try.runUnderlying26 Try.sizeOf25 rfl rfl rfl (by omega)) rfl ?_
          refine TE_q rfl rfl (RD.as (v := idV y) (RD.loadX (vs := idC y) Try.isAgg25 Try.sizeOf25 rfl rfl (fun w hw j u hu => hcy w (hw.sp (fun a => by simp -failIfUnchanged <;> omega)) j u hu)) (idC_agg _)) rfl ?_
          refine TE_q rfl rfl (RD.move rfl) rfl ?_
          refine TE_q rfl rfl (RD.move rfl) rfl ?_
          refine TE_q rfl rfl (RD.subI rfl rfl (by omega) (by omega)) rfl ?_
          refine TE_q rfl rfl (RD.indexX (i := k2 - 1) (len := l.length - k0) (cap := cap0 - k0) (b := b0) (off := 0 + k0 * 32) Try.runUnderlying26 Try.sizeOf25 rfl rfl (by omega) (by omega)) rfl ?_
          refine TE_q rfl rfl (RD.as (v := idV q) (RD.loadX (vs := idC q) Try.isAgg25 Try.sizeOf25 rfl rfl (fun w hw j u hu => hcq w (hw.sp (fun a => by simp -failIfUnchanged <;> omega)) j u hu)) (idC_agg _)) rfl ?_
          refine TE_q rfl rfl (RD.neq_agg Try.eqGuardType25 (eq_id y q) rfl rfl) rfl ?_
          refine TE_nil ?_
          first | refine pn_condD rfl (fun hc4 => ?_) (fun hc4 => ?_) | refine pn_condN rfl (fun hc4 => ?_) (fun hc4 => ?_) | refine pn_cond rfl (fun hc4 => ?_) (fun hc4 => ?_)
          · refine pn_seq ?_
            refine pn_sp (bldMx 25 idC zs (some (b0, cap0, tl0)) ++ HC) (fun a => by simp -failIfUnchanged <;> omega) ?_
            refine pn_plain [] rfl ?_
            refine TE_q rfl rfl (RD.move rfl) rfl ?_
            refine TE_q rfl rfl (RD.move rfl) rfl ?_
            refine TE_q rfl rfl (RD.move rfl) rfl ?_
            refine TE_q rfl rfl (RD.move rfl) rfl ?_
            refine TE_q rfl rfl (RD.indexX (i := k2) (len := l.length - k0) (cap := cap0 - k0) (b := b0) (off := 0 + k0 * 32) Try.runUnderlying26 Try.sizeOf25 rfl rfl rfl (by omega)) rfl ?_
            refine TE_l rfl rfl trivial rfl (RD.as (v := idV y) (RD.loadX (vs := idC y) Try.isAgg25 Try.sizeOf25 rfl rfl (fun w hw j u hu => hcy w (hw.sp (fun a => by simp -failIfUnchanged <;> omega)) j u hu)) (idC_agg _)) rfl ?_
            refine TE_q rfl rfl (RD.indexX (i := k) (len := l.length) (cap := cap0) (b := b0) (off := 0) Try.runUnderlying26 Try.sizeOf25 rfl rfl rfl (by omega)) rfl ?_
            refine TE_setE (i := k) (z := y) HC idC_len idC_one rfl rfl Try.sizeOf25 trivial rfl rfl rfl (by omega) (by omega) (.inr (by simp [keys, bldMx])) ?_
            refine TE_nil0 ?_
            refine pn_plain [] rfl ?_
            refine TE_q rfl rfl (RD.move rfl) rfl ?_
            refine TE_q rfl rfl (RD.addI rfl rfl (by omega) (by omega)) rfl ?_
            refine TE_q rfl rfl (RD.assign rfl) rfl ?_
            refine TE_nil0 ?_
            refine pn_plain [] rfl ?_
            refine TE_q rfl rfl (RD.move rfl) rfl ?_
            refine TE_q rfl rfl (RD.addI rfl rfl (by omega) (by omega)) rfl ?_
            refine TE_q rfl rfl (RD.assign rfl) rfl ?_
            refine TE_nil0 ?_
            (first | exact pn_again (k + 1, k2 + 1, zs.set k y) ⟨by show k0 ≤ k + 1; omega, by show k + 1 < k0 + (k2 + 1); omega, by show 1 ≤ k2 + 1; omega, by show k0 + (k2 + 1) ≤ _; omega, by show (zs.set k y).length = _; rw [List.length_set]; exact hzl, hbz.set idC_len k y, by show SetOf (l.take (k0 + k2 + 1)) ((zs.set k y).take (k + 1)); rw [set_take y (by omega)]; exact hnx.2 (by simpa using hc4), fun j hj => by show (zs.set k y)[j]? = _; have hj' : k0 + (k2 + 1) - 1 ≤ j := hj; rw [List.getElem?_set_ne (by omega)]; exact hdr j (by omega)⟩ (by show l.length - (k2 + 1) < l.length - k2; omega) ⟨rfl, rfl, rfl, rfl, trivial⟩ (List.Sublist.refl _) | exact pn_again (k, k2 + 1, zs) ⟨hk3, by show k < k0 + (k2 + 1); omega, by show 1 ≤ k2 + 1; omega, by show k0 + (k2 + 1) ≤ _; omega, hzl, hbz, hnx.1 (by simpa using hc4), fun j hj => hdr j (by have hj' : k0 + (k2 + 1) - 1 ≤ j := hj; omega)⟩ (by show l.length - (k2 + 1) < l.length - k2; omega) ⟨rfl, rfl, rfl, rfl, trivial⟩ (List.Sublist.refl _))
          · refine pn_skip ?_
            refine pn_plain [] rfl ?_
            refine TE_q rfl rfl (RD.move rfl) rfl ?_
            refine TE_q rfl rfl (RD.addI rfl rfl (by omega) (by omega)) rfl ?_
            refine TE_q rfl rfl (RD.assign rfl) rfl ?_
            refine TE_nil0 ?_
            (first | exact pn_again (k + 1, k2 + 1, zs.set k y) ⟨by show k0 ≤ k + 1; omega, by show k + 1 < k0 + (k2 + 1); omega, by show 1 ≤ k2 + 1; omega, by show k0 + (k2 + 1) ≤ _; omega, by show (zs.set k y).length = _; rw [List.length_set]; exact hzl, hbz.set idC_len k y, by show SetOf (l.take (k0 + k2 + 1)) ((zs.set k y).take (k + 1)); rw [set_take y (by omega)]; exact hnx.2 (by simpa using hc4), fun j hj => by show (zs.set k y)[j]? = _; have hj' : k0 + (k2 + 1) - 1 ≤ j := hj; rw [List.getElem?_set_ne (by omega)]; exact hdr j (by omega)⟩ (by show l.length - (k2 + 1) < l.length - k2; omega) ⟨rfl, rfl, rfl, rfl, trivial⟩ (List.Sublist.refl _) | exact pn_again (k, k2 + 1, zs) ⟨hk3, by show k < k0 + (k2 + 1); omega, by show 1 ≤ k2 + 1; omega, by show k0 + (k2 + 1) ≤ _; omega, hzl, hbz, hnx.1 (by simpa using hc4), fun j hj => hdr j (by have hj' : k0 + (k2 + 1) - 1 ≤ j := hj; omega)⟩ (by show l.length - (k2 + 1) < l.length - k2; omega) ⟨rfl, rfl, rfl, rfl, trivial⟩ (List.Sublist.refl _))
        · refine pn_exit ?_
          refine pn_seq ?_
          refine pn_sp (bldMx 25 idC zs (some (b0, cap0, tl0)) ++ HC) (fun a => by simp -failIfUnchanged <;> omega) ?_
          refine pn_plain [] rfl ?_
          refine TE_q rfl rfl (RD.move rfl) rfl ?_
          refine TE_q rfl rfl (RD.move rfl) rfl ?_
          refine TE_q rfl rfl (RD.sliceX (l := k) (h := l.length) Try.runUnderlying26 Try.sizeOf25 rfl hRl ⟨_, rfl⟩ rfl (by omega) (Nat.le_refl _)) rfl ?_
          refine TE_clearX (n := k) (l := zs) HC idC_len rfl rfl rfl trivial Try.underlying26 Try.zeroValue25 rfl zeroI_one (by show some (subVx 32 k l.length (.slice (some ⟨b0, 0, none⟩) l.length cap0)) = _; rw [← hzl]; rfl) (by omega) hbz (.inr (by simp [keys, bldMx])) ?_
          intro tl' hbt
          refine TE_nil0 ?_
          refine pn_seq ?_
          refine pn_plain [] rfl ?_
          refine TE_q rfl rfl (RD.move rfl) rfl ?_
          refine TE_q rfl rfl (RD.move rfl) rfl ?_
          refine TE_q rfl rfl (RD.sliceX (l := 0) (h := k) Try.runUnderlying26 Try.sizeOf25 rfl hRl rfl ⟨_, rfl⟩ (Nat.zero_le _) (by omega)) rfl ?_
          refine TE_q rfl rfl (RD.assign rfl) rfl ?_
          refine TE_nil0 ?_
          refine pn_ret ?_
          exact pn_done rfl rfl ⟨zs.take k, some (b0, cap0, tl'), by rwa [List.take_of_length_le (by omega)] at hset2, hbt, subVx_pre (n := l.length) (by rw [List.length_take]; omega), rfl⟩ (List.sublist_append_left _ _) (fun e he => .inl (by simp only [bldMx, List.mem_cons, List.not_mem_nil, or_false] at he; subst he; simp [keys, bldMx]))
      · refine pn_skip ?_
        refine pn_plain [] rfl ?_
        refine TE_q rfl rfl (RD.move rfl) rfl ?_
        refine TE_q rfl rfl (RD.addI rfl rfl (by omega) (by omega)) rfl ?_
        refine TE_q rfl rfl (RD.assign rfl) rfl ?_
        refine TE_nil0 ?_
        (exact pn_again (k + 1) ⟨by omega, by omega, by have h9 := hnx.2 (by simpa using hc2); rwa [← take_succ_of hx] at h9⟩ (by show l.length - (k + 1) < l.length - k; omega) ⟨rfl, rfl, trivial⟩ (List.Sublist.refl _))
    · refine pn_exit ?_
      refine pn_seq ?_
      refine pn_plain [] rfl ?_
      refine TE_q rfl rfl (RD.move rfl) rfl ?_
      refine TE_q rfl rfl (RD.assign rfl) rfl ?_
      refine TE_nil0 ?_
      refine pn_ret ?_
      exact pn_done rfl rfl ⟨l, some (b0, cap0, tl0), setOf_take hset (by omega), hbo, rfl, rfl⟩ (List.sublist_append_left _ _) (fun e he => .inl (List.mem_map_of_mem he))

theorem c_hashSet (HX : Mem) (v : Value) (l : List (Nat → Int)) (w : World) (hb : Rdx 32 idC HX v l) (hcan : ∀ x ∈ l, IdCan x) (hok : ∀ x ∈ l, IdOk x) (hlen : l.length ≤ 1000000) (hH : Hp HX w) : Calls Try.prog 94 #[v] w (Ret w [] fun r H1 => ∃ xs st, SetOf l xs ∧ BldOk 32 idC xs st ∧ r = bldVx xs st ∧ H1 = bldMx 25 idC xs st) := by
  refine fn_enter (args := [_]) Try.func94 rfl Try.ntmps94 rfl hH ?_
  refine pn_seq ?_
  refine pn_plain [] rfl ?_
  refine TE_q rfl rfl (RD.assign rfl) rfl ?_
  refine TE_nil0 ?_
  refine pn_seq ?_
  refine pn_plain [] rfl ?_
  refine TE_q rfl rfl (RD.move rfl) rfl ?_
  refine TE_call rfl rfl trivial Try.call24 rfl rfl rfl (fun w hs' => c_cloneI HX _ l w (hs'.hp.sp (fun a => by simp -failIfUnchanged <;> omega)) hb hlen) ?_
  rintro v5 H1 ⟨st, hbo, rfl, rfl⟩ hX1
  refine TE_q rfl rfl (RD.assign rfl) rfl ?_
  refine TE_nil0 ?_
  refine pn_seq ?_
  refine pn_plain [] rfl ?_
  refine TE_q rfl rfl (RD.move rfl) rfl ?_
  refine TE_callR HX (bldMx 25 idC l st) (fun a => by simp -failIfUnchanged <;> omega) rfl rfl trivial Try.call96 rfl rfl rfl (fun e he => .inl (hX1 e he)) (fun w hs' => c_sortB IdOk _ zeroI_ok Try.sort96 Try.isAgg25 Try.sizeOf25 idC_len idC_one idCmp idCmp_irr idCmp_tr idCmp_nt 97 #[] Try.call97 [] (fun x y W hx hy hW => (c_hashCmp x y W hx hy).mono (by rintro e w' ⟨v, H1, rfl, ⟨rfl, rfl⟩, h1, h2, h3⟩; exact ⟨_, [], rfl, rfl, h1, h2, h3⟩)) _ l st hbo hok w (hs'.hp.sp (fun a => by simp -failIfUnchanged <;> omega)) (by omega)) ?_
  rintro v7 H1 ⟨rfl, xs, hperm, hsort, rfl, hveq, hbo'⟩ hX2
  refine TE_nil0 ?_
  refine pn_seq ?_
  refine pn_plain [] rfl ?_
  refine TE_q rfl rfl (RD.move rfl) rfl ?_
  refine TE_callR HX (bldMx 25 idC xs st) (fun a => by simp -failIfUnchanged <;> omega) rfl rfl trivial Try.call98 rfl rfl rfl hX2 (fun w hs' => by have h := c_compact [] xs st w hbo' (fun x hx => hcan x (hperm.mem_iff.1 hx)) hsort (by rw [hperm.length_eq]; exact hlen) (hs'.hp.sp (fun a => by simp -failIfUnchanged <;> omega)); rw [hveq] at h; exact h) ?_
  rintro v9 H1 ⟨ys, st', hset, hbo'', rfl, rfl⟩ hX3
  refine TE_q rfl rfl (RD.assign rfl) rfl ?_
  refine TE_nil0 ?_
  refine pn_ret ?_
  exact pn_doneS (bldMx 25 idC ys st') rfl rfl ⟨ys, st', hset.congr (fun x => hperm.mem_iff), hbo'', rfl, rfl⟩ (fun a => by simp -failIfUnchanged <;> omega) hX3

end Go.Proofs.Ytloljpefdecmhaa

namespace Go.Proofs.Ytloljpefdecmhaa
open Go Go.Mv
set_option maxRecDepth 8000
instance : Inhabited Rec := ⟨⟨0, 0, fun _ => 0, ⟨#[]⟩, false, fun _ => 0⟩⟩
end Go.Proofs.Ytloljpefdecmhaa

namespace Go.Proofs.Ytloljpefdecmhaa
open Go Go.Mv
set_option maxRecDepth 8000
structure Lnk where
  k : Int
  id : Nat → Int
def lnkV (x : Lnk) : Value := .agg #[.int .i64 x.k, .int .u8 (x.id 0), .int .u8 (x.id 1), .int .u8 (x.id 2), .int .u8 (x.id 3), .int .u8 (x.id 4), .int .u8 (x.id 5), .int .u8 (x.id 6), .int .u8 (x.id 7), .int .u8 (x.id 8), .int .u8 (x.id 9), .int .u8 (x.id 10), .int .u8 (x.id 11), .int .u8 (x.id 12), .int .u8 (x.id 13), .int .u8 (x.id 14), .int .u8 (x.id 15), .int .u8 (x.id 16), .int .u8 (x.id 17), .int .u8 (x.id 18), .int .u8 (x.id 19), .int .u8 (x.id 20), .int .u8 (x.id 21), .int .u8 (x.id 22), .int .u8 (x.id 23), .int .u8 (x.id 24), .int .u8 (x.id 25), .int .u8 (x.id 26), .int .u8 (x.id 27), .int .u8 (x.id 28), .int .u8 (x.id 29), .int .u8 (x.id 30), .int .u8 (x.id 31)]
instance : Inhabited Lnk := ⟨⟨0, (fun _ => 0)⟩⟩
def lnkC (x : Lnk) : List Value := (lnkV x).cells.toList
theorem lnkC_len (x : Lnk) : (lnkC x).length = 33 := rfl
theorem lnkC_one (x : Lnk) : ∀ v ∈ lnkC x, v.oneCell' = true := List.all_eq_true.1 (show (lnkC x).all (fun v => v.oneCell') = true from rfl)
theorem lnkC_agg (x : Lnk) : Value.agg (lnkC x).toArray = lnkV x := rfl
theorem el_lnk : ElI Try.prog 28 33 40 (lnkV default) := by unfold ElI; kernel_rfl
theorem lnkC_id {x : Lnk} {j : Nat} {u : Value} (h : (idC x.id)[j]? = some u) : (lnkC x)[1 + j]? = some u := by
  have hj : j < 32 := (List.getElem?_eq_some_iff.1 h).1
  rw [← h]
  rcases lt32 hj with hj | ⟨k, hk, rfl⟩
  · rcases lt16 hj with rfl | rfl | rfl | rfl | rfl | rfl | rfl | rfl | rfl | rfl | rfl | rfl | rfl | rfl | rfl | rfl <;> rfl
  · rcases lt16 hk with rfl | rfl | rfl | rfl | rfl | rfl | rfl | rfl | rfl | rfl | rfl | rfl | rfl | rfl | rfl | rfl <;> rfl
def same_lnk (x y : Lnk) : Bool := (decide (x.k = y.k) && (sameN 32 x.id y.id && true))
theorem eqd_lnk (d : Nat) (x y : Lnk) (w : World) : (Op.equalIn (d + 4) 28 (.agg (lnkV x).cells) (.agg (lnkV y).cells)).run Try.prog w = .ok (same_lnk x y) w := by
  refine eqF_of (d := d + 3) Try.underlying28 Try.stoodInHeld28 ?_
  refine eqF_cons (a := .int .i64 x.k) (b := .int .i64 y.k) (r := decide (x.k = y.k)) rfl (by simp [part, Try.isAgg3, lnkV, Value.cells]) (by simp [part, Try.isAgg3, lnkV, Value.cells]) (by rw [run_equalIn_int w (d + 2) _ .i64 .i64 _ _ Try.underlying3]; rfl) ?_
  refine eqF_cons (a := idV x.id) (b := idV y.id) rfl (by simp [part, Try.isAgg25, Try.sizeOf25, lnkV, idV, Value.cells]) (by simp [part, Try.isAgg25, Try.sizeOf25, lnkV, idV, Value.cells]) (eqIn_ints (d := d + 1) (k := .u8) (n := 32) Try.underlying25 info_u8 Try.underlying5 Try.isAgg5 cells_u8 (fun i hi => ⟨id_at _ hi, id_at _ hi⟩) w) eqF_nil
theorem eq_lnk (x y : Lnk) (w : World) : (Op.equalIn 10000 28 (.agg (lnkV x).cells) (.agg (lnkV y).cells)).run Try.prog w = .ok (same_lnk x y) w := eqd_lnk 9996 x y w
structure Ent where
  name : ByteArray
  k : Int
  id : Nat → Int
def entV (x : Ent) : Value := .agg #[.string x.name, .int .i64 x.k, .int .u8 (x.id 0), .int .u8 (x.id 1), .int .u8 (x.id 2), .int .u8 (x.id 3), .int .u8 (x.id 4), .int .u8 (x.id 5), .int .u8 (x.id 6), .int .u8 (x.id 7), .int .u8 (x.id 8), .int .u8 (x.id 9), .int .u8 (x.id 10), .int .u8 (x.id 11), .int .u8 (x.id 12), .int .u8 (x.id 13), .int .u8 (x.id 14), .int .u8 (x.id 15), .int .u8 (x.id 16), .int .u8 (x.id 17), .int .u8 (x.id 18), .int .u8 (x.id 19), .int .u8 (x.id 20), .int .u8 (x.id 21), .int .u8 (x.id 22), .int .u8 (x.id 23), .int .u8 (x.id 24), .int .u8 (x.id 25), .int .u8 (x.id 26), .int .u8 (x.id 27), .int .u8 (x.id 28), .int .u8 (x.id 29), .int .u8 (x.id 30), .int .u8 (x.id 31)]
instance : Inhabited Ent := ⟨⟨⟨#[]⟩, 0, (fun _ => 0)⟩⟩
theorem ent_all (x : Ent) : Value.agg ((entV x).cells.extract 0 (0 + 34)) = entV x := by kernel_rfl
def entC (x : Ent) : List Value := (entV x).cells.toList
theorem entC_len (x : Ent) : (entC x).length = 34 := rfl
theorem entC_one (x : Ent) : ∀ v ∈ entC x, v.oneCell' = true := List.all_eq_true.1 (show (entC x).all (fun v => v.oneCell') = true from rfl)
theorem entC_agg (x : Ent) : Value.agg (entC x).toArray = entV x := rfl
theorem el_ent : ElI Try.prog 38 34 56 (entV default) := by unfold ElI; kernel_rfl
theorem ent_id (x : Ent) : Value.agg ((entV x).cells.extract 2 (2 + 32)) = idV x.id := by kernel_rfl
def same_ent (x y : Ent) : Bool := (decide (x.name = y.name) && (decide (x.k = y.k) && (sameN 32 x.id y.id && true)))
theorem eqd_ent (d : Nat) (x y : Ent) (w : World) : (Op.equalIn (d + 4) 38 (.agg (entV x).cells) (.agg (entV y).cells)).run Try.prog w = .ok (same_ent x y) w := by
  refine eqF_of (d := d + 3) Try.underlying38 Try.stoodInHeld38 ?_
  refine eqF_cons (a := .string x.name) (b := .string y.name) rfl (by simp [part, Try.isAgg9, entV, Value.cells]) (by simp [part, Try.isAgg9, entV, Value.cells]) (eqIn_string Try.underlying9) ?_
  refine eqF_cons (a := .int .i64 x.k) (b := .int .i64 y.k) (r := decide (x.k = y.k)) rfl (by simp [part, Try.isAgg3, entV, Value.cells]) (by simp [part, Try.isAgg3, entV, Value.cells]) (by rw [run_equalIn_int w (d + 2) _ .i64 .i64 _ _ Try.underlying3]; rfl) ?_
  refine eqF_cons (a := idV x.id) (b := idV y.id) rfl (by simp [part, Try.isAgg25, Try.sizeOf25, entV, idV, Value.cells]) (by simp [part, Try.isAgg25, Try.sizeOf25, entV, idV, Value.cells]) (eqIn_ints (d := d + 1) (k := .u8) (n := 32) Try.underlying25 info_u8 Try.underlying5 Try.isAgg5 cells_u8 (fun i hi => ⟨id_at _ hi, id_at _ hi⟩) w) eqF_nil
theorem eq_ent (x y : Ent) (w : World) : (Op.equalIn 10000 38 (.agg (entV x).cells) (.agg (entV y).cells)).run Try.prog w = .ok (same_ent x y) w := eqd_ent 9996 x y w
structure Ob where
  k : Int
  data : List UInt8
  ents : List Ent
  t : Nat → Int
  pars : List (Nat → Int)
  tg : Lnk
  m : ByteArray
def objV (x : Ob) (v_data v_ents v_pars : Value) : Value := .agg #[.int .i64 x.k, v_data, v_ents, .int .u8 (x.t 0), .int .u8 (x.t 1), .int .u8 (x.t 2), .int .u8 (x.t 3), .int .u8 (x.t 4), .int .u8 (x.t 5), .int .u8 (x.t 6), .int .u8 (x.t 7), .int .u8 (x.t 8), .int .u8 (x.t 9), .int .u8 (x.t 10), .int .u8 (x.t 11), .int .u8 (x.t 12), .int .u8 (x.t 13), .int .u8 (x.t 14), .int .u8 (x.t 15), .int .u8 (x.t 16), .int .u8 (x.t 17), .int .u8 (x.t 18), .int .u8 (x.t 19), .int .u8 (x.t 20), .int .u8 (x.t 21), .int .u8 (x.t 22), .int .u8 (x.t 23), .int .u8 (x.t 24), .int .u8 (x.t 25), .int .u8 (x.t 26), .int .u8 (x.t 27), .int .u8 (x.t 28), .int .u8 (x.t 29), .int .u8 (x.t 30), .int .u8 (x.t 31), v_pars, .int .i64 x.tg.k, .int .u8 (x.tg.id 0), .int .u8 (x.tg.id 1), .int .u8 (x.tg.id 2), .int .u8 (x.tg.id 3), .int .u8 (x.tg.id 4), .int .u8 (x.tg.id 5), .int .u8 (x.tg.id 6), .int .u8 (x.tg.id 7), .int .u8 (x.tg.id 8), .int .u8 (x.tg.id 9), .int .u8 (x.tg.id 10), .int .u8 (x.tg.id 11), .int .u8 (x.tg.id 12), .int .u8 (x.tg.id 13), .int .u8 (x.tg.id 14), .int .u8 (x.tg.id 15), .int .u8 (x.tg.id 16), .int .u8 (x.tg.id 17), .int .u8 (x.tg.id 18), .int .u8 (x.tg.id 19), .int .u8 (x.tg.id 20), .int .u8 (x.tg.id 21), .int .u8 (x.tg.id 22), .int .u8 (x.tg.id 23), .int .u8 (x.tg.id 24), .int .u8 (x.tg.id 25), .int .u8 (x.tg.id 26), .int .u8 (x.tg.id 27), .int .u8 (x.tg.id 28), .int .u8 (x.tg.id 29), .int .u8 (x.tg.id 30), .int .u8 (x.tg.id 31), .string x.m]
instance : Inhabited Ob := ⟨⟨0, [], [], (fun _ => 0), [], (⟨0, (fun _ => 0)⟩ : Lnk), ⟨#[]⟩⟩⟩
theorem obj_all (x : Ob) (v_data v_ents v_pars : Value) : Value.agg ((objV x v_data v_ents v_pars).cells.extract 0 (0 + 70)) = objV x v_data v_ents v_pars := by kernel_rfl
theorem objV_one (x : Ob) (v_data v_ents v_pars : Value) (h_data : v_data.oneCell' = true) (h_ents : v_ents.oneCell' = true) (h_pars : v_pars.oneCell' = true) : ((objV x v_data v_ents v_pars).cells.toList.all fun u => u.oneCell') = true := by
  have h9 : ∀ u ∈ (objV x v_data v_ents v_pars).cells.toList, u.oneCell' = true := by
    intro u hu
    simp only [objV, Value.cells, List.mem_cons, List.not_mem_nil, or_false] at hu
    rcases hu with rfl | rfl | rfl | rfl | rfl | rfl | rfl | rfl | rfl | rfl | rfl | rfl | rfl | rfl | rfl | rfl | rfl | rfl | rfl | rfl | rfl | rfl | rfl | rfl | rfl | rfl | rfl | rfl | rfl | rfl | rfl | rfl | rfl | rfl | rfl | rfl | rfl | rfl | rfl | rfl | rfl | rfl | rfl | rfl | rfl | rfl | rfl | rfl | rfl | rfl | rfl | rfl | rfl | rfl | rfl | rfl | rfl | rfl | rfl | rfl | rfl | rfl | rfl | rfl | rfl | rfl | rfl | rfl | rfl | rfl <;> first | rfl | assumption
  exact List.all_eq_true.2 h9
theorem put_obj_data (x : Ob) (v_data v_ents v_pars : Value) (v : Value) (y : List UInt8) : (objV x v_data v_ents v_pars).cells.setIfInBounds 1 v = (objV { x with data := y } v v_ents v_pars).cells := by kernel_rfl
theorem put_obj_ents (x : Ob) (v_data v_ents v_pars : Value) (v : Value) (y : List Ent) : (objV x v_data v_ents v_pars).cells.setIfInBounds 2 v = (objV { x with ents := y } v_data v v_pars).cells := by kernel_rfl
theorem obj_t (x : Ob) (v_data v_ents v_pars : Value) : Value.agg ((objV x v_data v_ents v_pars).cells.extract 3 (3 + 32)) = idV x.t := by kernel_rfl
theorem put_obj_t (x : Ob) (v_data v_ents v_pars : Value) (y : Nat → Int) : putL (objV x v_data v_ents v_pars).cells 3 (idV y).cells.toList = (objV { x with t := y } v_data v_ents v_pars).cells := by kernel_rfl
theorem put_obj_pars (x : Ob) (v_data v_ents v_pars : Value) (v : Value) (y : List (Nat → Int)) : (objV x v_data v_ents v_pars).cells.setIfInBounds 35 v = (objV { x with pars := y } v_data v_ents v).cells := by kernel_rfl
theorem obj_tg (x : Ob) (v_data v_ents v_pars : Value) : Value.agg ((objV x v_data v_ents v_pars).cells.extract 36 (36 + 33)) = lnkV x.tg := by kernel_rfl
theorem put_obj_tg_k (x : Ob) (v_data v_ents v_pars : Value) (y : Int) : (objV x v_data v_ents v_pars).cells.setIfInBounds 36 (.int .i64 y) = (objV { x with tg := { x.tg with k := y } } v_data v_ents v_pars).cells := by kernel_rfl
theorem put_obj_tg_id (x : Ob) (v_data v_ents v_pars : Value) (y : Nat → Int) : putL (objV x v_data v_ents v_pars).cells 37 (idV y).cells.toList = (objV { x with tg := { x.tg with id := y } } v_data v_ents v_pars).cells := by kernel_rfl
theorem put_obj_m (x : Ob) (v_data v_ents v_pars : Value) (y : ByteArray) : (objV x v_data v_ents v_pars).cells.setIfInBounds 69 (.string y) = (objV { x with m := y } v_data v_ents v_pars).cells := by kernel_rfl

end Go.Proofs.Ytloljpefdecmhaa

namespace Go.Proofs.Ytloljpefdecmhaa
open Go Go.Mv
set_option maxRecDepth 8000
theorem sep_dec : ∀ pos, pos < 2 → (Utf8.decode ⟨#[47, 0]⟩ pos).1 ≠ 65533 := by decide

theorem sep_idx (c : UInt8) : Lib.indexByte ((⟨#[47, 0]⟩ : ByteArray).extract 2 (⟨#[47, 0]⟩ : ByteArray).size).data.toList c = -1 := rfl

theorem c_runeBig (r : Int) (w : World) (hr : 128 ≤ r) (hH : Hp [] w) : Calls Try.prog 80 #[.string ⟨#[47, 0]⟩, .int .i32 r] w (Ret w [] fun v H1 => v = .int .i64 (-1) ∧ H1 = []) := by
  have ⟨henc, henc4, henc2⟩ := enc_big hr
  refine fn_enter (args := [_, _]) Try.func80 rfl Try.ntmps80 rfl hH ?_
  refine pn_seq ?_
  refine pn_plain [] rfl ?_
  refine TE_q rfl rfl (RD.assign rfl) rfl ?_
  refine TE_nil0 ?_
  refine pn_block ?_
  refine pn_seq ?_
  refine pn_plain [] rfl ?_
  refine TE_q rfl rfl (RD.move rfl) rfl ?_
  refine TE_q rfl rfl (RD.leq rfl rfl) rfl ?_
  refine TE_q rfl rfl (RD.move rfl) rfl ?_
  refine TE_join (σ := Unit) (fun _ => [(0, .string ⟨#[47, 0]⟩), (1, .int .i32 r), (160, .bool ((decide (0 ≤ r)) && (decide (r < 128))))]) (fun _ => []) (fun _ => True) ?_ ?_
  · refine TE_dec (fun hf1 => ?_) (fun hf1 => ?_)
    · refine TE_gq rfl rfl rfl rfl (RD.move rfl) rfl ?_
      refine TE_gq rfl rfl rfl rfl (RD.lss rfl rfl) rfl ?_
      refine TE_q rfl rfl (RD.pickT rfl rfl) rfl ?_
      refine TE_q rfl rfl (RD.assign rfl) rfl ?_
      refine TE_nil0 ?_
      exact pn_give () trivial ⟨rfl, rfl, congrArg (fun b => some (Value.bool b)) (by first | (simp [hf1]; done) | (simp only [decide_eq_true hf1]; rfl)), trivial⟩ (fun _ hw => hw.sp (fun a => by simp -failIfUnchanged <;> omega))
    · refine TE_s rfl rfl rfl rfl rfl ?_
      refine TE_s rfl rfl rfl rfl rfl ?_
      refine TE_q rfl rfl (RD.pickF rfl rfl) rfl ?_
      refine TE_q rfl rfl (RD.assign rfl) rfl ?_
      refine TE_nil0 ?_
      exact pn_give () trivial ⟨rfl, rfl, congrArg (fun b => some (Value.bool b)) (by first | (simp [hf1]; done) | (simp only [decide_eq_false hf1]; rfl)), trivial⟩ (fun _ hw => hw.sp (fun a => by simp -failIfUnchanged <;> omega))
  rintro _ -
  refine pn_cond rfl (fun hc2 => ?_) (fun hc2 => ?_)
  · exfalso
    simp only [Bool.and_eq_true, decide_eq_true_eq] at hc2; omega
  · simp only [Bool.and_eq_false_iff, decide_eq_false_iff_not] at hc2
    refine pn_seq ?_
    refine pn_plain [] rfl ?_
    refine TE_q rfl rfl (RD.move rfl) rfl ?_
    refine TE_q rfl rfl (RD.eql rfl rfl) rfl ?_
    refine TE_q rfl rfl (RD.assign rfl) rfl ?_
    refine TE_nil0 ?_
    refine pn_condD rfl (fun hc3 => ?_) (fun hc3 => ?_)
    · refine pn_seq ?_
      refine pn_seq ?_
      refine pn_plain [] rfl ?_
      refine TE_q rfl rfl (RD.move rfl) rfl ?_
      refine TE_rangeS rfl Try.runUnderlying9 rfl trivial rfl fun b175 hb175 => ?_
      refine TE_nil0 ?_
      refine pn_block ?_
      refine pn_loopS (σ := Nat) (fun q => [(175, .pointer (some ⟨b175, 0, none⟩))]) (fun q => [(b175, .stringIter ⟨#[47, 0]⟩ q)]) (fun q => True) (fun q => 2 - q) 0 trivial ⟨rfl, trivial⟩ (fun a => by simp -failIfUnchanged <;> omega) ?_
      rintro pos -
      refine pn_seq ?_
      refine pn_plain [] rfl ?_
      refine (if hn4 : pos < (⟨#[47, 0]⟩ : ByteArray).size then ?_ else ?_)
      · have ⟨hw5, hw6⟩ := decode_step hn4; refine TE_nextS (i := 0) rfl rfl trivial rfl rfl hn4 (.inl hb175) ?_
        refine TE_q rfl rfl (RD.extract rfl rfl) rfl ?_
        refine TE_nil0 ?_
        refine pn_seq ?_
        refine pn_condT rfl ?_
        refine pn_skip ?_
        refine pn_block ?_
        refine pn_seq ?_
        refine pn_plain [] rfl ?_
        refine TE_q rfl rfl (RD.extract rfl rfl) rfl ?_
        refine TE_q rfl rfl (RD.extract rfl rfl) rfl ?_
        refine TE_q rfl rfl (RD.assign rfl) rfl ?_
        refine TE_q rfl rfl (RD.assign rfl) rfl ?_
        refine TE_nil0 ?_
        refine pn_seq ?_
        refine pn_plain [] rfl ?_
        refine TE_q rfl rfl (RD.move rfl) rfl ?_
        refine TE_q rfl rfl (RD.eql rfl rfl) rfl ?_
        refine TE_nil0 ?_
        refine pn_condD rfl (fun hc7 => ?_) (fun hc7 => ?_)
        · exfalso
          have := sep_dec pos (by assumption); omega
        · refine pn_skip ?_
          exact pn_againS (pos + (Utf8.decode (⟨#[47, 0]⟩ : ByteArray) pos).2) trivial (by have h9 : (⟨#[47, 0]⟩ : ByteArray).size = 2 := rfl; omega) ⟨rfl, trivial⟩ (fun a => by simp -failIfUnchanged <;> omega)
      · refine TE_nextE (i := 0) rfl rfl trivial rfl rfl hn4 ?_
        refine TE_q rfl rfl (RD.extract rfl rfl) rfl ?_
        refine TE_nil0 ?_
        refine pn_seq ?_
        refine pn_condF rfl ?_
        refine pn_exit ?_
        refine pn_seq ?_
        refine pn_plainG [] [] rfl (fun a => by simp -failIfUnchanged <;> omega) ?_
        refine TE_q rfl rfl (RD.assign rfl) rfl ?_
        refine TE_nil0 ?_
        refine pn_ret ?_
        exact pn_doneS [] rfl rfl ⟨rfl, rfl⟩ (fun _ => Nat.zero_le _) (fun _ he => nomatch he)
    · refine pn_seq ?_
      refine pn_plain [] rfl ?_
      refine TE_q rfl rfl (RD.move rfl) rfl ?_
      refine TE_callG _ [] rfl rfl trivial Try.call85 rfl rfl rfl (fun w hw => Ret.same (Try.utf8_ValidRune r w)) (fun a => by simp -failIfUnchanged <;> omega) ?_
      rintro v8 H9 ⟨rfl, rfl⟩ -
      refine TE_q rfl rfl (RD.not rfl) rfl ?_
      refine TE_q rfl rfl (RD.assign rfl) rfl ?_
      refine TE_nil0 ?_
      refine pn_cond rfl (fun hc10 => ?_) (fun hc10 => ?_)
      · simp only [Bool.not_eq_true'] at hc10
        refine pn_seq ?_
        refine pn_plain [] rfl ?_
        refine TE_q rfl rfl (RD.assign rfl) rfl ?_
        refine TE_nil0 ?_
        refine pn_ret ?_
        exact pn_doneS [] rfl rfl ⟨rfl, rfl⟩ (fun _ => Nat.zero_le _) (fun _ he => nomatch he)
      · simp only [Bool.not_eq_false'] at hc10
        refine pn_scope ?_
        refine pn_seq ?_
        refine pn_plain [] rfl ?_
        refine TE_q rfl rfl (RD.move rfl) rfl ?_
        refine TE_l rfl rfl trivial rfl (RD.str_of_rune Try.runUnderlying21 Try.runUnderlying9 rfl) rfl ?_
        refine TE_q rfl rfl (RD.assign rfl) rfl ?_
        refine TE_nil0 ?_
        refine pn_seq ?_
        refine pn_plain [1] rfl ?_
        refine TE_q rfl rfl (RD.move rfl) rfl ?_
        refine TE_q rfl rfl (RD.len_string Try.runUnderlying9 rfl) rfl ?_
        refine TE_q rfl rfl (RD.subI rfl rfl (by omega) (by omega)) rfl ?_
        refine TE_q rfl rfl (RD.assign rfl) rfl ?_
        refine TE_nil0 ?_
        refine pn_seq ?_
        refine pn_plain [] rfl ?_
        refine TE_q rfl rfl (RD.move rfl) rfl ?_
        refine TE_q rfl rfl (RD.assign rfl) rfl ?_
        refine TE_nil0 ?_
        refine pn_seq ?_
        refine pn_plain [] rfl ?_
        refine TE_q rfl rfl (RD.assign rfl) rfl ?_
        refine TE_nil0 ?_
        refine pn_seq ?_
        refine pn_block ?_
        refine pn_loopS (σ := Unit) (fun q => [(0, .string ⟨#[47, 0]⟩), (7, .string (Utf8.encode r)), (8, .int .i64 (((Utf8.encode r).size : Int) - 1)), (9, .int .i64 (((Utf8.encode r).size : Int) - 1)), (10, .int .i64 0)]) (fun q => []) (fun q => True) (fun q => 0) () trivial ⟨rfl, rfl, rfl, rfl, rfl, trivial⟩ (fun a => by simp -failIfUnchanged <;> omega) ?_
        rintro _ -
        refine pn_seq ?_
        refine pn_seq ?_
        refine pn_plain [2] rfl ?_
        refine TE_q rfl rfl (RD.move rfl) rfl ?_
        refine TE_q rfl rfl (RD.move rfl) rfl ?_
        refine TE_q rfl rfl (RD.as (v := .int .i64 2) (RD.len_string Try.runUnderlying9 rfl) rfl) rfl ?_
        refine TE_q rfl rfl (RD.lss rfl rfl) rfl ?_
        refine TE_nil0 ?_
        refine pn_condD rfl (fun hc11 => ?_) (fun hc11 => ?_)
        · refine pn_skip ?_
          refine pn_block ?_
          refine pn_scope ?_
          refine pn_seq ?_
          refine pn_seq ?_
          refine pn_drawG [] [] [] rfl rfl (by kernel_rfl) (fun a => by simp -failIfUnchanged <;> omega) ?_
          refine TE_q rfl rfl (RD.move rfl) rfl ?_
          refine TE_q rfl rfl (RD.move rfl) rfl ?_
          refine TE_q rfl rfl (RD.indexStr (i := 1) Try.underlying9 rfl rfl (by omega) (gt_some (lt_data (by first | omega | exact Nat.le_of_ble_eq_true rfl)))) rfl ?_
          refine TE_q rfl rfl (RD.move rfl) rfl ?_
          refine TE_q rfl rfl (RD.move rfl) rfl ?_
          refine TE_q rfl rfl (RD.indexStr (i := 1) Try.underlying9 rfl rfl (by omega) (gt_some (lt_data (by first | omega | exact Nat.le_of_ble_eq_true rfl)))) rfl ?_
          refine TE_q rfl rfl (RD.neq rfl rfl) rfl ?_
          refine TE_nil ?_
          refine pn_condN rfl (fun hc12 => ?_) (fun hc12 => ?_)
          · refine pn_seq ?_
            refine pn_drawG [] [] [] rfl rfl (by kernel_rfl) (fun a => by simp -failIfUnchanged <;> omega) ?_
            refine TE_q rfl rfl (RD.move rfl) rfl ?_
            refine TE_q rfl rfl (RD.move rfl) rfl ?_
            refine TE_q rfl rfl (RD.addI rfl rfl (by omega) (by omega)) rfl ?_
            refine TE_q rfl rfl (RD.sliceStr (l := 2) (h := (⟨#[47, 0]⟩ : ByteArray).size) Try.underlying9 rfl ⟨_, congrArg (fun z => some (Value.int .i64 z)) (show ((Utf8.encode r).size : Int) - 1 + 1 = ((2 : Nat) : Int) by omega)⟩ rfl (Nat.le_refl _) (Nat.le_refl _)) rfl ?_
            refine TE_q rfl rfl (RD.move rfl) rfl ?_
            refine TE_q rfl rfl (RD.move rfl) rfl ?_
            refine TE_q rfl rfl (RD.indexStr (i := 1) Try.underlying9 rfl rfl (by omega) (gt_some (lt_data (by first | omega | exact Nat.le_of_ble_eq_true rfl)))) rfl ?_
            refine TE_callG _ [] rfl rfl trivial Try.call84 rfl rfl rfl (fun w hw => Ret.same (Try.strings_IndexByte ((⟨#[47, 0]⟩ : ByteArray).extract 2 (⟨#[47, 0]⟩ : ByteArray).size) ((gt (Utf8.encode r).data.toList 1).toNat : Int) w)) (fun a => by simp -failIfUnchanged <;> omega) ?_
            rintro v13 H14 ⟨rfl, rfl⟩ -
            refine TE_q rfl rfl (RD.assign rfl) rfl ?_
            refine TE_nil ?_
            refine pn_seq ?_
            refine pn_seq ?_
            refine pn_plainG [] [] rfl (fun a => by simp -failIfUnchanged <;> omega) ?_
            refine TE_q rfl rfl (RD.move rfl) rfl ?_
            refine TE_q rfl rfl (RD.lss rfl rfl) rfl ?_
            refine TE_nil0 ?_
            refine pn_condD rfl (fun hc15 => ?_) (fun hc15 => ?_)
            · refine pn_seq ?_
              refine pn_plain [] rfl ?_
              refine TE_q rfl rfl (RD.assign rfl) rfl ?_
              refine TE_nil0 ?_
              refine pn_ret ?_
              exact pn_doneS [] rfl rfl ⟨rfl, rfl⟩ (fun _ => Nat.zero_le _) (fun _ he => nomatch he)
            · exfalso
              exact hc15 (by rw [sep_idx]; decide)
          · exfalso
            have h9 := henc2 (by omega); have h8 : (gt ((⟨#[47, 0]⟩ : ByteArray).data.toList) 1) = 0 := rfl; rw [h8] at hc12; have h7 : (0 : UInt8).toNat = 0 := rfl; omega
        · refine pn_exit ?_
          refine pn_seq ?_
          refine pn_seq ?_
          refine pn_plain [] rfl ?_
          refine TE_q rfl rfl (RD.assign rfl) rfl ?_
          refine TE_nil0 ?_
          refine pn_ret ?_
          exact pn_doneS [] rfl rfl ⟨rfl, rfl⟩ (fun _ => Nat.zero_le _) (fun _ he => nomatch he)

theorem sep_key : ∀ n : Nat, n < 128 → decide (0 ≤ Lib.indexByte (⟨#[47, 0]⟩ : ByteArray).data.toList ((n : Int).toNat.toUInt8)) = decide ((n : Int) = 47 ∨ (n : Int) = 0) := by decide
theorem c_runeSep (r : Nat) (w : World) : Calls Try.prog 80 #[.string ⟨#[47, 0]⟩, .int .i32 (r : Int)] w (Ret w [] fun v H1 => ∃ z, v = .int .i64 z ∧ decide (0 ≤ z) = decide ((r : Int) = 47 ∨ (r : Int) = 0) ∧ H1 = []) := by
  by_cases h : r < 128
  · refine (Ret.same (Try.strings_IndexRune_ascii ⟨#[47, 0]⟩ r w (by omega) (by omega))).mono ?_
    rintro e w' ⟨v, H1, rfl, ⟨rfl, rfl⟩, h3⟩
    exact ⟨_, _, rfl, ⟨_, rfl, sep_key r h, rfl⟩, h3⟩
  · refine (c_runeBig (r : Int) w (by omega) (Hp.nil _)).mono ?_
    rintro e w' ⟨v, H1, rfl, ⟨rfl, rfl⟩, h3⟩
    exact ⟨_, _, rfl, ⟨_, rfl, by rw [decide_eq_false (by omega), decide_eq_false (by omega)], rfl⟩, h3⟩

theorem c_idxShort (s : ByteArray) (w : World) (hs : s.size ≤ 8) (hH : Hp [] w) : Calls Try.prog 79 #[.string s, .string ⟨#[47, 0]⟩] w (Ret w [] fun v H1 => ∃ z, v = .int .i64 z ∧ decide (0 ≤ z) = hasSep s ∧ H1 = []) := by
  refine fn_enter (args := [_, _]) Try.func79 rfl Try.ntmps79 rfl hH ?_
  refine pn_seq ?_
  refine pn_plain [] rfl ?_
  refine TE_q rfl rfl (RD.assign rfl) rfl ?_
  refine TE_nil0 ?_
  refine pn_seq ?_
  refine pn_seq ?_
  refine pn_plain [] rfl ?_
  refine TE_q rfl rfl (RD.move rfl) rfl ?_
  refine TE_q rfl rfl (RD.as (v := .bool false) (RD.eql_string rfl rfl) (congrArg Value.bool (by decide))) rfl ?_
  refine TE_nil0 ?_
  refine pn_condF rfl ?_
  refine pn_skip ?_
  refine pn_seq ?_
  refine pn_seq ?_
  refine pn_plain [1] rfl ?_
  refine TE_q rfl rfl (RD.move rfl) rfl ?_
  refine TE_q rfl rfl (RD.as (v := .int .i64 2) (RD.len_string Try.runUnderlying9 rfl) rfl) rfl ?_
  refine TE_q rfl rfl (RD.as (v := .bool false) (RD.eql rfl rfl) rfl) rfl ?_
  refine TE_nil0 ?_
  refine pn_condF rfl ?_
  refine pn_skip ?_
  refine pn_seq ?_
  refine pn_seq ?_
  refine pn_plain [1] rfl ?_
  refine TE_q rfl rfl (RD.move rfl) rfl ?_
  refine TE_q rfl rfl (RD.len_string Try.runUnderlying9 rfl) rfl ?_
  refine TE_callG _ [] rfl rfl trivial Try.call81 rfl rfl rfl (fun w hw => Ret.same (Try.strings_shouldUseASCIISet (s.size : Int) w)) (fun a => by simp -failIfUnchanged <;> omega) ?_
  rintro v1 H2 ⟨rfl, rfl⟩ -
  refine TE_nil0 ?_
  refine pn_condD rfl (fun hc3 => ?_) (fun hc3 => ?_)
  · exfalso
    omega
  · refine pn_skip ?_
    refine pn_seq ?_
    refine pn_seq ?_
    refine pn_plain [] rfl ?_
    refine TE_q rfl rfl (RD.move rfl) rfl ?_
    refine TE_rangeS rfl Try.runUnderlying9 rfl trivial rfl fun b45 hb45 => ?_
    refine TE_nil0 ?_
    refine pn_block ?_
    refine pn_loopS (σ := Nat) (fun q => [(1, .string ⟨#[47, 0]⟩), (45, .pointer (some ⟨b45, 0, none⟩))]) (fun q => [(b45, .stringIter s q)]) (fun q => (NoSep s q)) (fun q => s.size - q) 0 (fun j hj => absurd hj (Nat.not_lt_zero _)) ⟨rfl, rfl, trivial⟩ (fun a => by simp -failIfUnchanged <;> omega) ?_
    rintro pos hns
    refine pn_seq ?_
    refine pn_plain [] rfl ?_
    refine (if hn4 : pos < s.size then ?_ else ?_)
    · have ⟨hw5, hw6⟩ := decode_step hn4; refine TE_nextS (i := 0) rfl rfl trivial rfl rfl hn4 (.inl hb45) ?_
      refine TE_q rfl rfl (RD.extract rfl rfl) rfl ?_
      refine TE_nil0 ?_
      refine pn_seq ?_
      refine pn_condT rfl ?_
      refine pn_skip ?_
      refine pn_block ?_
      refine pn_seq ?_
      refine pn_plain [] rfl ?_
      refine TE_q rfl rfl (RD.extract rfl rfl) rfl ?_
      refine TE_q rfl rfl (RD.extract rfl rfl) rfl ?_
      refine TE_q rfl rfl (RD.assign rfl) rfl ?_
      refine TE_q rfl rfl (RD.assign rfl) rfl ?_
      refine TE_nil0 ?_
      refine pn_seq ?_
      refine pn_plain [] rfl ?_
      refine TE_q rfl rfl (RD.move rfl) rfl ?_
      refine TE_q rfl rfl (RD.move rfl) rfl ?_
      refine TE_callG _ [] rfl rfl trivial Try.call80 rfl rfl rfl (fun w hw => c_runeSep ((Utf8.decode s pos).1) w) (fun a => by simp -failIfUnchanged <;> omega) ?_
      rintro v9 H10 ⟨z7, rfl, hz8, rfl⟩ -
      refine TE_q rfl rfl (RD.geq rfl rfl) rfl ?_
      refine TE_nil0 ?_
      refine pn_condD rfl (fun hc11 => ?_) (fun hc11 => ?_)
      · refine pn_seq ?_
        refine pn_plainG [] [] rfl (fun a => by simp -failIfUnchanged <;> omega) ?_
        refine TE_q rfl rfl (RD.move rfl) rfl ?_
        refine TE_q rfl rfl (RD.assign rfl) rfl ?_
        refine TE_nil0 ?_
        refine pn_ret ?_
        exact pn_doneS [] rfl rfl ⟨_, rfl, (by rw [NoSep.hit (by assumption) hz8 (by assumption)]; exact decide_eq_true (by omega)), rfl⟩ (fun _ => Nat.zero_le _) (fun _ he => nomatch he)
      · refine pn_skip ?_
        exact pn_againS (pos + (Utf8.decode s pos).2) (hns.step (by assumption) hz8 (by assumption)) (by omega) ⟨rfl, rfl, trivial⟩ (fun a => by simp -failIfUnchanged <;> omega)
    · refine TE_nextE (i := 0) rfl rfl trivial rfl rfl hn4 ?_
      refine TE_q rfl rfl (RD.extract rfl rfl) rfl ?_
      refine TE_nil0 ?_
      refine pn_seq ?_
      refine pn_condF rfl ?_
      refine pn_exit ?_
      refine pn_seq ?_
      refine pn_plainG [] [] rfl (fun a => by simp -failIfUnchanged <;> omega) ?_
      refine TE_q rfl rfl (RD.assign rfl) rfl ?_
      refine TE_nil0 ?_
      refine pn_ret ?_
      exact pn_doneS [] rfl rfl ⟨_, rfl, (by rw [NoSep.none hns (by omega)]; rfl), rfl⟩ (fun _ => Nat.zero_le _) (fun _ he => nomatch he)

theorem c_idxSep (s : ByteArray) (w : World) (hs : s.size ≤ 1000000) : Calls Try.prog 79 #[.string s, .string ⟨#[47, 0]⟩] w (Ret w [] fun v H1 => ∃ z, v = .int .i64 z ∧ decide (0 ≤ z) = hasSep s ∧ H1 = []) := by
  by_cases h : s.size ≤ 8
  · exact c_idxShort s w h (Hp.nil _)
  · refine (Ret.new2 (Try.strings_IndexAny_long Try.zeroValue120 s ⟨#[47, 0]⟩ w (Nat.le_of_ble_eq_true rfl) (by omega) (by omega) (Nat.lt_of_lt_of_le (show 2 < 3 by decide) (by decide)) (fun j b hj => ?_))).mono ?_
    · have hl : j < 2 := (List.getElem?_eq_some_iff.1 hj).1
      have : j = 0 ∨ j = 1 := by omega
      rcases this with rfl | rfl
      · obtain rfl := Option.some.inj hj; decide
      · obtain rfl := Option.some.inj hj; decide
    · rintro e w' ⟨v, H1, rfl, ⟨rfl, rfl⟩, h3⟩
      exact ⟨_, _, rfl, ⟨_, rfl, indexAny_sep s, rfl⟩, h3⟩

theorem c_hasSep (s : ByteArray) (w : World) (hs : s.size ≤ 1000000) (hH : Hp [] w) : Calls Try.prog 78 #[.string s, .string ⟨#[47, 0]⟩] w (Ret w [] fun v H1 => v = .bool (hasSep s) ∧ H1 = []) := by
  refine fn_enter (args := [_, _]) Try.func78 rfl Try.ntmps78 rfl hH ?_
  refine pn_seq ?_
  refine pn_plain [] rfl ?_
  refine TE_q rfl rfl (RD.assign rfl) rfl ?_
  refine TE_nil0 ?_
  refine pn_seq ?_
  refine pn_plain [] rfl ?_
  refine TE_q rfl rfl (RD.move rfl) rfl ?_
  refine TE_q rfl rfl (RD.move rfl) rfl ?_
  refine TE_callG _ [] rfl rfl trivial Try.call79 rfl rfl rfl (fun w hw => c_idxSep s w hs) (fun a => by simp -failIfUnchanged <;> omega) ?_
  rintro v3 H4 ⟨z1, rfl, hz2, rfl⟩ -
  refine TE_q rfl rfl (RD.geq rfl rfl) rfl ?_
  refine TE_q rfl rfl (RD.assign rfl) rfl ?_
  refine TE_nil0 ?_
  refine pn_ret ?_
  exact pn_doneS [] rfl rfl ⟨(congrArg Value.bool hz2), rfl⟩ (fun _ => Nat.zero_le _) (fun _ he => nomatch he)

end Go.Proofs.Ytloljpefdecmhaa

namespace Go.Proofs.Ytloljpefdecmhaa
open Go Go.Mv
set_option maxRecDepth 8000
def sameGL {α : Type} (f : α → α → Bool) : List α → List α → Bool
  | [], [] => true
  | x :: xs, y :: ys => f x y && sameGL f xs ys
  | _, _ => false
section
variable {α : Type} {f : α → α → Bool}
theorem sameG_len : ∀ {xs ys : List α}, xs.length ≠ ys.length → sameGL f xs ys = false
  | [], [], h => absurd rfl h
  | [], _ :: _, _ => rfl
  | _ :: _, [], _ => rfl
  | x :: xs, y :: ys, h => by
    rw [sameGL, sameG_len (fun e => h (by simp [e])), Bool.and_false]
theorem sameG_F [Inhabited α] : ∀ {xs ys : List α} {i : Nat}, i < xs.length → i < ys.length → f (gt xs i) (gt ys i) = false → sameGL f xs ys = false
  | [], _, _, h, _, _ => absurd h (Nat.not_lt_zero _)
  | _ :: _, [], _, _, h, _ => absurd h (Nat.not_lt_zero _)
  | x :: xs, y :: ys, 0, _, _, h => by
    have h' : f x y = false := h
    rw [sameGL, h', Bool.false_and]
  | x :: xs, y :: ys, i + 1, h1, h2, h => by
    rw [sameGL, sameG_F (i := i) (by simpa using h1) (by simpa using h2) h, Bool.and_false]
theorem sameG_T [Inhabited α] : ∀ {xs ys : List α}, xs.length = ys.length → (∀ j, j < xs.length → f (gt xs j) (gt ys j) = true) → sameGL f xs ys = true
  | [], [], _, _ => rfl
  | [], _ :: _, h, _ => absurd h (by simp)
  | _ :: _, [], h, _ => absurd h (by simp)
  | x :: xs, y :: ys, h, ha => by
    have h0 : f x y = true := ha 0 (by simp)
    rw [sameGL, h0, Bool.true_and, sameG_T (by simpa using h) fun j hj => ha (j + 1) (by simpa using hj)]
theorem sameG_self (hf : ∀ x, f x x = true) : ∀ xs : List α, sameGL f xs xs = true
  | [] => rfl
  | x :: xs => by rw [sameGL, hf x, sameG_self hf xs]; rfl
end
theorem sameIG_eq : ∀ xs ys : List (Nat → Int), sameIL xs ys = sameGL (sameN 32) xs ys
  | [], [] => rfl
  | [], _ :: _ => rfl
  | _ :: _, [] => rfl
  | x :: xs, y :: ys => by rw [sameIL, sameGL, sameIG_eq xs ys]
theorem ba_eq {a b : List UInt8} : ((⟨a.toArray⟩ : ByteArray) = ⟨b.toArray⟩) ↔ a = b := by simp
def idZ (t : Nat → Int) : Bool := sameN 32 t fun _ => 0
structure EntOk (e : Ent) : Prop where
  n : e.name.size ≤ 5000
  id : IdOk e.id
structure ObW (x : Ob) : Prop where
  d : x.data.length ≤ 9223372036854775807
  e : x.ents.length ≤ 9223372036854775807
  p : x.pars.length ≤ 9223372036854775807
  en : ∀ e ∈ x.ents, IdOk e.id
  t : IdOk x.t
  g : IdOk x.tg.id
  pk : ∀ p ∈ x.pars, IdOk p
  pc : ∀ p ∈ x.pars, IdCan p
structure ObOk (x : Ob) : Prop where
  d : x.data.length ≤ 1100
  e : x.ents.length ≤ 40
  p : x.pars.length ≤ 10
  m : x.m.size ≤ 5000
  en : ∀ e ∈ x.ents, EntOk e
  t : IdOk x.t
  g : IdOk x.tg.id
  pk : ∀ p ∈ x.pars, IdOk p
  pc : ∀ p ∈ x.pars, IdCan p
def greatB (x : Ob) : Bool := decide (1100 < x.data.length) || decide (40 < x.ents.length) || decide (10 < x.pars.length) || decide (300 < x.m.size) || x.ents.any fun e => decide (100 < e.name.size)
def greatI (x : Ob) : Int := if greatB x then 1 else 0
theorem great_1 {x : Ob} (h : 1100 < (x.data.length : Int) ∨ 40 < (x.ents.length : Int) ∨ 10 < (x.pars.length : Int) ∨ 300 < (x.m.size : Int)) : (1 : Int) = greatI x := by
  have : greatB x = true := by
    simp only [greatB, Bool.or_eq_true, decide_eq_true_eq]
    omega
  rw [greatI, this]; rfl
theorem great_2 {x : Ob} {i : Nat} (hi : i < x.ents.length) (h : 100 < ((gt x.ents i).name.size : Int)) : (1 : Int) = greatI x := by
  have : greatB x = true := by
    simp only [greatB, Bool.or_eq_true]
    exact .inr (List.any_eq_true.2 ⟨_, gt_mem hi, decide_eq_true (by omega)⟩)
  rw [greatI, this]; rfl
theorem great_3 {x : Ob} (h1 : (x.data.length : Int) ≤ 1100) (h2 : (x.ents.length : Int) ≤ 40) (h3 : (x.pars.length : Int) ≤ 10) (h4 : (x.m.size : Int) ≤ 300) (h : ∀ j, j < x.ents.length → (gt x.ents j).name.size ≤ 100) : (0 : Int) = greatI x := by
  have h5 : (x.ents.any fun e => decide (100 < e.name.size)) = false := by
    refine List.any_eq_false.2 fun e he => ?_
    obtain ⟨j, hj, rfl⟩ := List.getElem_of_mem he
    have := h j hj
    have e1 := gt_some hj
    rw [List.getElem?_eq_getElem hj] at e1
    rw [← Option.some.inj e1] at this
    simpa using this
  have : greatB x = false := by
    simp only [greatB, h5, Bool.or_false, Bool.or_eq_false_iff, decide_eq_false_iff_not]
    omega
  rw [greatI, this]; rfl
theorem great_ok {x : Ob} (hw : ObW x) (h : ¬ 0 < greatI x) : ObOk x := by
  have : greatB x = false := by
    cases hg : greatB x with
    | false => rfl
    | true => exact absurd (by rw [greatI, hg]; decide) h
  simp only [greatB, Bool.or_eq_false_iff, decide_eq_false_iff_not, List.any_eq_false] at this
  obtain ⟨⟨⟨⟨h1, h2⟩, h3⟩, h4⟩, h5⟩ := this
  exact ⟨by omega, by omega, by omega, by omega, fun e he => ⟨by have := h5 e he; simp only [decide_eq_true_eq] at this; omega, hw.en e he⟩, hw.t, hw.g, hw.pk, hw.pc⟩
def nameB (s : ByteArray) : Bool := decide (1 ≤ s.size) && decide (s.size ≤ 64) && !hasSep s
def entAt (l : List Ent) (i : Nat) : Bool := nameB (gt l i).name && (decide ((gt l i).k = 1) || decide ((gt l i).k = 2)) && (decide (i = 0) || slt (gt l (i - 1)).name (gt l i).name)
def treeB (l : List Ent) : Bool := decide (l.length ≤ 32) && (List.range l.length).all (entAt l)
theorem tree_F2 {l : List Ent} {i : Nat} (hi : i < l.length) (h : entAt l i = false) : treeB l = false := by
  have : (List.range l.length).all (entAt l) = false := List.all_eq_false.2 ⟨i, List.mem_range.2 hi, by simp [h]⟩
  rw [treeB, this, Bool.and_false]
theorem tree_T {l : List Ent} (h : ∀ j, j < l.length → entAt l j = true) : treeB l = decide (l.length ≤ 32) := by
  have : (List.range l.length).all (entAt l) = true := List.all_eq_true.2 fun j hj => h j (List.mem_range.1 hj)
  rw [treeB, this, Bool.and_true]
/-- No two of them are the same. -/
def uniqB (l : List (Nat → Int)) : Bool := (List.range l.length).all fun i => (List.range i).all fun k => !sameN 32 (gt l i) (gt l k)
theorem uniq_T {l : List (Nat → Int)} (h : ∀ i k, i < l.length → k < i → sameN 32 (gt l i) (gt l k) = false) : uniqB l = true :=
  List.all_eq_true.2 fun i hi => List.all_eq_true.2 fun k hk => by rw [h i k (List.mem_range.1 hi) (List.mem_range.1 hk)]; rfl
theorem uniq_at {l : List (Nat → Int)} (h : uniqB l = true) {i k : Nat} (hi : i < l.length) (hk : k < i) : sameN 32 (gt l i) (gt l k) = false := by
  have := List.all_eq_true.1 (List.all_eq_true.1 h i (List.mem_range.2 hi)) k (List.mem_range.2 hk)
  simpa using this
def parsB (l : List (Nat → Int)) : Bool := decide (l.length ≤ 4) && uniqB l
def mayB (x : Ob) : Bool := if x.k = 1 then decide (x.data.length ≤ 1024) else if x.k = 2 then treeB x.ents else if x.k = 3 then parsB x.pars && decide (x.m.size ≤ 200) else if x.k = 4 then (decide (1 ≤ x.tg.k) && decide (x.tg.k ≤ 4)) && decide (x.m.size ≤ 200) else false
def zId : Nat → Int := fun _ => 0
def zLnk : Lnk := ⟨0, zId⟩
def bareOb (x : Ob) : Ob := if x.k = 1 then ⟨x.k, x.data, [], zId, [], zLnk, ⟨#[]⟩⟩ else if x.k = 2 then ⟨x.k, [], x.ents, zId, [], zLnk, ⟨#[]⟩⟩ else if x.k = 3 then ⟨x.k, [], [], x.t, x.pars, zLnk, x.m⟩ else ⟨x.k, [], [], zId, [], x.tg, x.m⟩
def obSame (a b : Ob) : Bool := decide (a.k = b.k) && (decide (a.data = b.data) && (sameGL same_ent a.ents b.ents && (sameN 32 a.t b.t && (sameIL a.pars b.pars && (same_lnk a.tg b.tg && decide (a.m = b.m))))))
def obOkB (x : Ob) : Bool := mayB x && obSame (bareOb x) x
def lnksL (x : Ob) : List Lnk := if x.k = 1 then [] else if x.k = 2 then x.ents.map (fun e => ⟨e.k, e.id⟩) else if x.k = 3 then ⟨2, x.t⟩ :: x.pars.map (fun p => ⟨3, p⟩) else if x.k = 4 then [x.tg] else []
def linksL (x : Ob) : List Lnk := if obOkB x then lnksL x else []
theorem sameN_self (f : Nat → Int) (n : Nat) : sameN n f f = true := by
  induction n with
  | zero => rfl
  | succ n ih => simp [sameN, ih]
theorem same_lnk_self (x : Lnk) : same_lnk x x = true := by simp [same_lnk, sameN_self]
theorem same_ent_self (x : Ent) : same_ent x x = true := by simp [same_ent, sameN_self]

end Go.Proofs.Ytloljpefdecmhaa

namespace Go.Proofs.Ytloljpefdecmhaa
open Go Go.Mv
set_option maxRecDepth 8000
theorem c_equalE (xsv : Value) (xs : List Ent) (ysv : Value) (ys : List Ent) (HX : Mem) (w : World) (hbxs : Rdx 34 (entC) HX xsv xs) (hlxs : xs.length ≤ 1000000) (hbys : Rdx 34 (entC) HX ysv ys) (hlys : ys.length ≤ 1000000) (hH : Hp HX w) : Calls Try.prog 19 #[xsv, ysv] w (Ret w [] fun v H1 => v = .bool (sameGL same_ent xs ys) ∧ H1 = []) := by
  refine fn_enter (args := [_, _]) Try.func19 rfl Try.ntmps19 rfl hH ?_
  refine pn_seq ?_
  refine pn_plain [] rfl ?_
  refine TE_q rfl rfl (RD.assign rfl) rfl ?_
  refine TE_nil0 ?_
  refine pn_seq ?_
  refine pn_seq ?_
  refine pn_plain [1, 3] rfl ?_
  refine TE_q rfl rfl (RD.move rfl) rfl ?_
  refine TE_q rfl rfl (RD.lenX Try.runUnderlying23 rfl hbxs) rfl ?_
  refine TE_q rfl rfl (RD.move rfl) rfl ?_
  refine TE_q rfl rfl (RD.lenX Try.runUnderlying23 rfl hbys) rfl ?_
  refine TE_q rfl rfl (RD.neq rfl rfl) rfl ?_
  refine TE_nil0 ?_
  refine pn_condN rfl (fun hc1 => ?_) (fun hc1 => ?_)
  · refine pn_seq ?_
    refine pn_plainG [] [] rfl (fun a => by simp -failIfUnchanged <;> omega) ?_
    refine TE_q rfl rfl (RD.assign rfl) rfl ?_
    refine TE_nil0 ?_
    refine pn_ret ?_
    exact pn_doneS [] rfl rfl ⟨(congrArg Value.bool (sameG_len (by omega)).symm), rfl⟩ (fun _ => Nat.zero_le _) (fun _ he => nomatch he)
  · refine pn_skip ?_
    refine pn_seq ?_
    refine pn_seq ?_
    refine pn_plain [1] rfl ?_
    refine TE_q rfl rfl (RD.move rfl) rfl ?_
    refine TE_q rfl rfl (RD.lenX Try.runUnderlying23 rfl hbxs) rfl ?_
    refine TE_q rfl rfl (RD.move rfl) rfl ?_
    refine TE_nil0 ?_
    refine pn_block ?_
    refine pn_loopS (σ := Nat) (fun q => [(0, xsv), (1, ysv), (12, .int .i64 (xs.length : Int)), (13, .int .i64 (q : Int))]) (fun q => HX) (fun q => (q ≤ xs.length) ∧ (∀ j, j < q → same_ent (gt xs j) (gt ys j) = true)) (fun q => xs.length - q) 0 ⟨(by omega), (fun j hj => absurd hj (Nat.not_lt_zero _))⟩ ⟨rfl, rfl, rfl, rfl, trivial⟩ (fun a => by simp -failIfUnchanged <;> omega) ?_
    rintro i ⟨hi, hall⟩
    refine pn_seq ?_
    refine pn_plain [] rfl ?_
    refine TE_q rfl rfl (RD.lss rfl rfl) rfl ?_
    refine TE_nil0 ?_
    refine pn_seq ?_
    refine pn_condD rfl (fun hc2 => ?_) (fun hc2 => ?_)
    · refine pn_skip ?_
      refine pn_seq ?_
      refine pn_block ?_
      refine pn_seq ?_
      refine pn_plain [] rfl ?_
      refine TE_q rfl rfl (RD.move rfl) rfl ?_
      refine TE_q rfl rfl (RD.assign rfl) rfl ?_
      refine TE_nil0 ?_
      refine pn_seq ?_
      refine pn_drawG [3, 7] [] HX rfl rfl (by kernel_rfl) (fun a => by simp -failIfUnchanged <;> omega) ?_
      refine TE_q rfl rfl (RD.move rfl) rfl ?_
      refine TE_q rfl rfl (RD.move rfl) rfl ?_
      refine TE_q rfl rfl (RD.idxR (i := i) (o := (i * 34 + 0)) Try.runUnderlying23 Try.sizeOf38 rfl hbxs rfl rfl (by omega) (by rfl)) rfl ?_
      refine TE_q rfl rfl (RD.ldRA (i := i) (j := 0) (vs := (entC (gt xs i))) Try.isAgg38 Try.sizeOf38 rfl hbxs (gt_some (by omega)) (by rfl) rfl (fun _ _ hu => by rw [Nat.zero_add]; exact hu) (entC_agg _) (fun _ hw => hw.sp (fun a => by simp -failIfUnchanged <;> omega))) rfl ?_
      refine TE_q rfl rfl (RD.move rfl) rfl ?_
      refine TE_q rfl rfl (RD.move rfl) rfl ?_
      refine TE_q rfl rfl (RD.idxR (i := i) (o := (i * 34 + 0)) Try.runUnderlying23 Try.sizeOf38 rfl hbys rfl rfl (by omega) (by rfl)) rfl ?_
      refine TE_q rfl rfl (RD.ldRA (i := i) (j := 0) (vs := (entC (gt ys i))) Try.isAgg38 Try.sizeOf38 rfl hbys (gt_some (by omega)) (by rfl) rfl (fun _ _ hu => by rw [Nat.zero_add]; exact hu) (entC_agg _) (fun _ hw => hw.sp (fun a => by simp -failIfUnchanged <;> omega))) rfl ?_
      refine TE_q rfl rfl (RD.neq_agg Try.eqGuardType38 (eq_ent (gt xs i) (gt ys i)) rfl rfl) rfl ?_
      refine TE_nil ?_
      refine pn_cond rfl (fun hc3 => ?_) (fun hc3 => ?_)
      · simp only [Bool.not_eq_true'] at hc3
        refine pn_seq ?_
        refine pn_plainG [] [] rfl (fun a => by simp -failIfUnchanged <;> omega) ?_
        refine TE_q rfl rfl (RD.assign rfl) rfl ?_
        refine TE_nil0 ?_
        refine pn_ret ?_
        exact pn_doneS [] rfl rfl ⟨(congrArg Value.bool (sameG_F (f := same_ent) (i := i) (by omega) (by omega) (by assumption)).symm), rfl⟩ (fun _ => Nat.zero_le _) (fun _ he => nomatch he)
      · simp only [Bool.not_eq_false'] at hc3
        refine pn_skip ?_
        refine pn_plainG [] HX rfl (fun a => by simp -failIfUnchanged <;> omega) ?_
        refine TE_q rfl rfl (RD.addI rfl rfl (by omega) (by omega)) rfl ?_
        refine TE_q rfl rfl (RD.move rfl) rfl ?_
        refine TE_nil0 ?_
        exact pn_againS (i + 1) ⟨(by omega), (fun j hj => by rcases Nat.lt_or_ge j i with h | h; exact hall j h; obtain rfl : j = i := (by omega); assumption)⟩ (by omega) ⟨rfl, rfl, rfl, rfl, trivial⟩ (fun a => by simp -failIfUnchanged <;> omega)
    · refine pn_exit ?_
      refine pn_seq ?_
      refine pn_plainG [] [] rfl (fun a => by simp -failIfUnchanged <;> omega) ?_
      refine TE_q rfl rfl (RD.assign rfl) rfl ?_
      refine TE_nil0 ?_
      refine pn_ret ?_
      exact pn_doneS [] rfl rfl ⟨(congrArg Value.bool (sameG_T (f := same_ent) (by omega) fun j hj => hall j (by omega)).symm), rfl⟩ (fun _ => Nat.zero_le _) (fun _ he => nomatch he)

theorem c_equalI (xsv : Value) (xs : List ((Nat → Int))) (ysv : Value) (ys : List ((Nat → Int))) (HX : Mem) (w : World) (hbxs : Rdx 32 (idC) HX xsv xs) (hlxs : xs.length ≤ 1000000) (hbys : Rdx 32 (idC) HX ysv ys) (hlys : ys.length ≤ 1000000) (hH : Hp HX w) : Calls Try.prog 20 #[xsv, ysv] w (Ret w [] fun v H1 => v = .bool (sameIL xs ys) ∧ H1 = []) := by
  refine fn_enter (args := [_, _]) Try.func20 rfl Try.ntmps20 rfl hH ?_
  refine pn_seq ?_
  refine pn_plain [] rfl ?_
  refine TE_q rfl rfl (RD.assign rfl) rfl ?_
  refine TE_nil0 ?_
  refine pn_seq ?_
  refine pn_seq ?_
  refine pn_plain [1, 3] rfl ?_
  refine TE_q rfl rfl (RD.move rfl) rfl ?_
  refine TE_q rfl rfl (RD.lenX Try.runUnderlying26 rfl hbxs) rfl ?_
  refine TE_q rfl rfl (RD.move rfl) rfl ?_
  refine TE_q rfl rfl (RD.lenX Try.runUnderlying26 rfl hbys) rfl ?_
  refine TE_q rfl rfl (RD.neq rfl rfl) rfl ?_
  refine TE_nil0 ?_
  refine pn_condN rfl (fun hc1 => ?_) (fun hc1 => ?_)
  · refine pn_seq ?_
    refine pn_plainG [] [] rfl (fun a => by simp -failIfUnchanged <;> omega) ?_
    refine TE_q rfl rfl (RD.assign rfl) rfl ?_
    refine TE_nil0 ?_
    refine pn_ret ?_
    exact pn_doneS [] rfl rfl ⟨(congrArg Value.bool (((sameG_len (by omega)).symm).trans (sameIG_eq _ _).symm)), rfl⟩ (fun _ => Nat.zero_le _) (fun _ he => nomatch he)
  · refine pn_skip ?_
    refine pn_seq ?_
    refine pn_seq ?_
    refine pn_plain [1] rfl ?_
    refine TE_q rfl rfl (RD.move rfl) rfl ?_
    refine TE_q rfl rfl (RD.lenX Try.runUnderlying26 rfl hbxs) rfl ?_
    refine TE_q rfl rfl (RD.move rfl) rfl ?_
    refine TE_nil0 ?_
    refine pn_block ?_
    refine pn_loopS (σ := Nat) (fun q => [(0, xsv), (1, ysv), (12, .int .i64 (xs.length : Int)), (13, .int .i64 (q : Int))]) (fun q => HX) (fun q => (q ≤ xs.length) ∧ (∀ j, j < q → (sameN 32) (gt xs j) (gt ys j) = true)) (fun q => xs.length - q) 0 ⟨(by omega), (fun j hj => absurd hj (Nat.not_lt_zero _))⟩ ⟨rfl, rfl, rfl, rfl, trivial⟩ (fun a => by simp -failIfUnchanged <;> omega) ?_
    rintro i ⟨hi, hall⟩
    refine pn_seq ?_
    refine pn_plain [] rfl ?_
    refine TE_q rfl rfl (RD.lss rfl rfl) rfl ?_
    refine TE_nil0 ?_
    refine pn_seq ?_
    refine pn_condD rfl (fun hc2 => ?_) (fun hc2 => ?_)
    · refine pn_skip ?_
      refine pn_seq ?_
      refine pn_block ?_
      refine pn_seq ?_
      refine pn_plain [] rfl ?_
      refine TE_q rfl rfl (RD.move rfl) rfl ?_
      refine TE_q rfl rfl (RD.assign rfl) rfl ?_
      refine TE_nil0 ?_
      refine pn_seq ?_
      refine pn_drawG [3, 7] [] HX rfl rfl (by kernel_rfl) (fun a => by simp -failIfUnchanged <;> omega) ?_
      refine TE_q rfl rfl (RD.move rfl) rfl ?_
      refine TE_q rfl rfl (RD.move rfl) rfl ?_
      refine TE_q rfl rfl (RD.idxR (i := i) (o := (i * 32 + 0)) Try.runUnderlying26 Try.sizeOf25 rfl hbxs rfl rfl (by omega) (by rfl)) rfl ?_
      refine TE_q rfl rfl (RD.ldRA (i := i) (j := 0) (vs := (idC (gt xs i))) Try.isAgg25 Try.sizeOf25 rfl hbxs (gt_some (by omega)) (by rfl) rfl (fun _ _ hu => by rw [Nat.zero_add]; exact hu) (idC_agg _) (fun _ hw => hw.sp (fun a => by simp -failIfUnchanged <;> omega))) rfl ?_
      refine TE_q rfl rfl (RD.move rfl) rfl ?_
      refine TE_q rfl rfl (RD.move rfl) rfl ?_
      refine TE_q rfl rfl (RD.idxR (i := i) (o := (i * 32 + 0)) Try.runUnderlying26 Try.sizeOf25 rfl hbys rfl rfl (by omega) (by rfl)) rfl ?_
      refine TE_q rfl rfl (RD.ldRA (i := i) (j := 0) (vs := (idC (gt ys i))) Try.isAgg25 Try.sizeOf25 rfl hbys (gt_some (by omega)) (by rfl) rfl (fun _ _ hu => by rw [Nat.zero_add]; exact hu) (idC_agg _) (fun _ hw => hw.sp (fun a => by simp -failIfUnchanged <;> omega))) rfl ?_
      refine TE_q rfl rfl (RD.neq_agg Try.eqGuardType25 (eq_id (gt xs i) (gt ys i)) rfl rfl) rfl ?_
      refine TE_nil ?_
      refine pn_cond rfl (fun hc3 => ?_) (fun hc3 => ?_)
      · simp only [Bool.not_eq_true'] at hc3
        refine pn_seq ?_
        refine pn_plainG [] [] rfl (fun a => by simp -failIfUnchanged <;> omega) ?_
        refine TE_q rfl rfl (RD.assign rfl) rfl ?_
        refine TE_nil0 ?_
        refine pn_ret ?_
        exact pn_doneS [] rfl rfl ⟨(congrArg Value.bool (((sameG_F (f := (sameN 32)) (i := i) (by omega) (by omega) (by assumption)).symm).trans (sameIG_eq _ _).symm)), rfl⟩ (fun _ => Nat.zero_le _) (fun _ he => nomatch he)
      · simp only [Bool.not_eq_false'] at hc3
        refine pn_skip ?_
        refine pn_plainG [] HX rfl (fun a => by simp -failIfUnchanged <;> omega) ?_
        refine TE_q rfl rfl (RD.addI rfl rfl (by omega) (by omega)) rfl ?_
        refine TE_q rfl rfl (RD.move rfl) rfl ?_
        refine TE_nil0 ?_
        exact pn_againS (i + 1) ⟨(by omega), (fun j hj => by rcases Nat.lt_or_ge j i with h | h; exact hall j h; obtain rfl : j = i := (by omega); assumption)⟩ (by omega) ⟨rfl, rfl, rfl, rfl, trivial⟩ (fun a => by simp -failIfUnchanged <;> omega)
    · refine pn_exit ?_
      refine pn_seq ?_
      refine pn_plainG [] [] rfl (fun a => by simp -failIfUnchanged <;> omega) ?_
      refine TE_q rfl rfl (RD.assign rfl) rfl ?_
      refine TE_nil0 ?_
      refine pn_ret ?_
      exact pn_doneS [] rfl rfl ⟨(congrArg Value.bool (((sameG_T (f := (sameN 32)) (by omega) fun j hj => hall j (by omega)).symm).trans (sameIG_eq _ _).symm)), rfl⟩ (fun _ => Nat.zero_le _) (fun _ he => nomatch he)

theorem c_bytesEqual (xsv : Value) (xs : List UInt8) (ysv : Value) (ys : List UInt8) (HX : Mem) (w : World) (hbxs : Rdb HX xsv xs) (hbys : Rdb HX ysv ys) (hH : Hp HX w) : Calls Try.prog 18 #[xsv, ysv] w (Ret w [] fun v H1 => v = .bool (decide (xs = ys)) ∧ H1 = []) := by
  refine fn_enter (args := [_, _]) Try.func18 rfl Try.ntmps18 rfl hH ?_
  refine pn_seq ?_
  refine pn_plain [] rfl ?_
  refine TE_q rfl rfl (RD.assign rfl) rfl ?_
  refine TE_nil0 ?_
  refine pn_seq ?_
  refine pn_plain [] rfl ?_
  refine TE_q rfl rfl (RD.move rfl) rfl ?_
  refine TE_l rfl rfl trivial rfl (RD.str_of_bytes Try.underlying22 Try.underlying9 Try.underlying5 rfl (BytesIn.mono (hbxs).bytes (fun _ hw => hw.sp (fun a => by simp -failIfUnchanged <;> omega)))) rfl ?_
  refine TE_q rfl rfl (RD.move rfl) rfl ?_
  refine TE_l rfl rfl trivial rfl (RD.str_of_bytes Try.underlying22 Try.underlying9 Try.underlying5 rfl (BytesIn.mono (hbys).bytes (fun _ hw => hw.sp (fun a => by simp -failIfUnchanged <;> omega)))) rfl ?_
  refine TE_q rfl rfl (RD.eql_string rfl rfl) rfl ?_
  refine TE_q rfl rfl (RD.assign rfl) rfl ?_
  refine TE_nil0 ?_
  refine pn_ret ?_
  exact pn_doneS [] rfl rfl ⟨(congrArg Value.bool (decide_eq_decide.2 ba_eq)), rfl⟩ (fun _ => Nat.zero_le _) (fun _ he => nomatch he)

theorem c_great (x : Ob) (xd : Value) (xe : Value) (xp : Value) (HX : Mem) (w : World) (hbxd : Rdb HX xd x.data) (hbxe : Rdx 34 (entC) HX xe x.ents) (hbxp : Rdx 32 (idC) HX xp x.pars) (hox : ObW x) (hH : Hp HX w) : Calls Try.prog 5 #[objV x xd xe xp] w (Ret w [] fun v H1 => v = .int .i64 (greatI x) ∧ H1 = []) := by
  have hw1 := hox.d; have hw2 := hox.e; have hw3 := hox.p
  refine fn_enter (args := [_]) Try.func5 rfl Try.ntmps5 rfl hH ?_
  refine pn_seq ?_
  refine pn_plain [] rfl ?_
  refine TE_boxC (objV x xd xe xp).cells rfl rfl rfl trivial rfl fun b1 hb1 => ?_
  refine TE_q rfl rfl (RD.assign rfl) rfl ?_
  refine TE_nil0 ?_
  refine pn_seq ?_
  refine pn_seq ?_
  refine pn_plain [2, 7, 13, 19] rfl ?_
  refine TE_q rfl rfl (RD.fieldAddr (o := 1) Try.runUnderlying30 rfl rfl Try.sizeOf22 rfl) rfl ?_
  refine TE_l rfl rfl trivial rfl (RD.load (i := 0) (v := xd) Try.isAgg22 rfl rfl rfl) rfl ?_
  refine TE_q rfl rfl (RD.lenR Try.runUnderlying22 rfl hbxd) rfl ?_
  refine TE_q rfl rfl (RD.gtr rfl rfl) rfl ?_
  refine TE_q rfl rfl (RD.move rfl) rfl ?_
  refine TE_join (σ := Unit) (fun _ => [(1, .pointer (some ⟨b1, 0, none⟩)), (25, .bool ((decide (1100 < (x.data.length : Int))) || ((decide (40 < (x.ents.length : Int))) || ((decide (10 < (x.pars.length : Int))) || (decide (300 < (x.m.size : Int)))))))]) (fun _ => ((b1, .cells (objV x xd xe xp).cells 30 (0, 0)) :: HX)) (fun _ => True) ?_ ?_
  · refine TE_dec (fun hf1 => ?_) (fun hf1 => ?_)
    · refine TE_s rfl rfl rfl rfl rfl ?_
      refine TE_s rfl rfl rfl rfl rfl ?_
      refine TE_s rfl rfl rfl rfl rfl ?_
      refine TE_s rfl rfl rfl rfl rfl ?_
      refine TE_q rfl rfl (RD.pickT rfl rfl) rfl ?_
      refine TE_q rfl rfl (RD.move rfl) rfl ?_
      refine TE_s rfl rfl rfl rfl rfl ?_
      refine TE_s rfl rfl rfl rfl rfl ?_
      refine TE_s rfl rfl rfl rfl rfl ?_
      refine TE_s rfl rfl rfl rfl rfl ?_
      refine TE_q rfl rfl (RD.pickT rfl rfl) rfl ?_
      refine TE_q rfl rfl (RD.move rfl) rfl ?_
      refine TE_s rfl rfl rfl rfl rfl ?_
      refine TE_s rfl rfl rfl rfl rfl ?_
      refine TE_s rfl rfl rfl rfl rfl ?_
      refine TE_s rfl rfl rfl rfl rfl ?_
      refine TE_q rfl rfl (RD.pickT rfl rfl) rfl ?_
      refine TE_nil0 ?_
      exact pn_give () trivial ⟨rfl, congrArg (fun b => some (Value.bool b)) (by first | (simp [hf1]; done) | (simp only [decide_eq_true hf1]; rfl)), trivial⟩ (fun _ hw => hw.sp (fun a => by simp -failIfUnchanged <;> omega))
    · refine TE_gq rfl rfl rfl rfl (RD.fieldAddr (o := 2) Try.runUnderlying30 rfl rfl Try.sizeOf23 rfl) rfl ?_
      refine TE_l rfl rfl ⟨_, rfl, rfl⟩ rfl (RD.load (i := 0) (v := xe) Try.isAgg23 rfl rfl rfl) rfl ?_
      refine TE_gq rfl rfl rfl rfl (RD.lenX Try.runUnderlying23 rfl hbxe) rfl ?_
      refine TE_gq rfl rfl rfl rfl (RD.gtr rfl rfl) rfl ?_
      refine TE_q rfl rfl (RD.pickF rfl rfl) rfl ?_
      refine TE_q rfl rfl (RD.move rfl) rfl ?_
      refine TE_dec (fun hf2 => ?_) (fun hf2 => ?_)
      · refine TE_s rfl rfl rfl rfl rfl ?_
        refine TE_s rfl rfl rfl rfl rfl ?_
        refine TE_s rfl rfl rfl rfl rfl ?_
        refine TE_s rfl rfl rfl rfl rfl ?_
        refine TE_q rfl rfl (RD.pickT rfl rfl) rfl ?_
        refine TE_q rfl rfl (RD.move rfl) rfl ?_
        refine TE_s rfl rfl rfl rfl rfl ?_
        refine TE_s rfl rfl rfl rfl rfl ?_
        refine TE_s rfl rfl rfl rfl rfl ?_
        refine TE_s rfl rfl rfl rfl rfl ?_
        refine TE_q rfl rfl (RD.pickT rfl rfl) rfl ?_
        refine TE_nil0 ?_
        exact pn_give () trivial ⟨rfl, congrArg (fun b => some (Value.bool b)) (by first | (simp [hf1, hf2]; done) | (simp only [decide_eq_false hf1, decide_eq_true hf2]; rfl)), trivial⟩ (fun _ hw => hw.sp (fun a => by simp -failIfUnchanged <;> omega))
      · refine TE_gq rfl rfl rfl rfl (RD.fieldAddr (o := 35) Try.runUnderlying30 rfl rfl Try.sizeOf26 rfl) rfl ?_
        refine TE_l rfl rfl ⟨_, rfl, rfl⟩ rfl (RD.load (i := 0) (v := xp) Try.isAgg26 rfl rfl rfl) rfl ?_
        refine TE_gq rfl rfl rfl rfl (RD.lenX Try.runUnderlying26 rfl hbxp) rfl ?_
        refine TE_gq rfl rfl rfl rfl (RD.gtr rfl rfl) rfl ?_
        refine TE_q rfl rfl (RD.pickF rfl rfl) rfl ?_
        refine TE_q rfl rfl (RD.move rfl) rfl ?_
        refine TE_dec (fun hf3 => ?_) (fun hf3 => ?_)
        · refine TE_s rfl rfl rfl rfl rfl ?_
          refine TE_s rfl rfl rfl rfl rfl ?_
          refine TE_s rfl rfl rfl rfl rfl ?_
          refine TE_s rfl rfl rfl rfl rfl ?_
          refine TE_q rfl rfl (RD.pickT rfl rfl) rfl ?_
          refine TE_nil0 ?_
          exact pn_give () trivial ⟨rfl, congrArg (fun b => some (Value.bool b)) (by first | (simp [hf1, hf2, hf3]; done) | (simp only [decide_eq_false hf1, decide_eq_false hf2, decide_eq_true hf3]; rfl)), trivial⟩ (fun _ hw => hw.sp (fun a => by simp -failIfUnchanged <;> omega))
        · refine TE_gq rfl rfl rfl rfl (RD.fieldAddr (o := 69) Try.runUnderlying30 rfl rfl Try.sizeOf9 rfl) rfl ?_
          refine TE_l rfl rfl ⟨_, rfl, rfl⟩ rfl (RD.load (i := 0) (v := .string x.m) Try.isAgg9 rfl rfl rfl) rfl ?_
          refine TE_gq rfl rfl rfl rfl (RD.len_string Try.runUnderlying9 rfl) rfl ?_
          refine TE_gq rfl rfl rfl rfl (RD.gtr rfl rfl) rfl ?_
          refine TE_q rfl rfl (RD.pickF rfl rfl) rfl ?_
          refine TE_nil0 ?_
          exact pn_give () trivial ⟨rfl, congrArg (fun b => some (Value.bool b)) (by first | (simp [hf1, hf2, hf3]; done) | (simp only [decide_eq_false hf1, decide_eq_false hf2, decide_eq_false hf3]; rfl)), trivial⟩ (fun _ hw => hw.sp (fun a => by simp -failIfUnchanged <;> omega))
  rintro _ -
  refine pn_cond rfl (fun hc4 => ?_) (fun hc4 => ?_)
  · simp only [Bool.or_eq_true, decide_eq_true_eq] at hc4
    refine pn_seq ?_
    refine pn_plainG [] [] rfl (fun a => by simp -failIfUnchanged <;> omega) ?_
    refine TE_q rfl rfl (RD.assign rfl) rfl ?_
    refine TE_nil0 ?_
    refine pn_ret ?_
    exact pn_doneS [] rfl rfl ⟨(congrArg (Value.int .i64) (great_1 (by omega))), rfl⟩ (fun _ => Nat.zero_le _) (fun _ he => nomatch he)
  · simp only [Bool.or_eq_false_iff, decide_eq_false_iff_not] at hc4
    refine pn_skip ?_
    refine pn_seq ?_
    refine pn_seq ?_
    refine pn_plain [] rfl ?_
    refine TE_q rfl rfl (RD.assign rfl) rfl ?_
    refine TE_nil0 ?_
    refine pn_block ?_
    refine pn_loopS (σ := Nat) (fun q => [(1, .pointer (some ⟨b1, 0, none⟩)), (3, .int .i64 (q : Int))]) (fun q => ((b1, .cells (objV x xd xe xp).cells 30 (0, 0)) :: HX)) (fun q => (q ≤ x.ents.length) ∧ (∀ j, j < q → (gt x.ents j).name.size ≤ 100)) (fun q => x.ents.length - q) 0 ⟨(by omega), (fun j hj => absurd hj (Nat.not_lt_zero _))⟩ ⟨rfl, rfl, trivial⟩ (fun a => by simp -failIfUnchanged <;> omega) ?_
    rintro i ⟨hi, hall⟩
    refine pn_seq ?_
    refine pn_seq ?_
    refine pn_plain [3] rfl ?_
    refine TE_q rfl rfl (RD.move rfl) rfl ?_
    refine TE_q rfl rfl (RD.fieldAddr (o := 2) Try.runUnderlying30 rfl rfl Try.sizeOf23 rfl) rfl ?_
    refine TE_l rfl rfl trivial rfl (RD.load (i := 0) (v := xe) Try.isAgg23 rfl rfl rfl) rfl ?_
    refine TE_q rfl rfl (RD.lenX Try.runUnderlying23 rfl hbxe) rfl ?_
    refine TE_q rfl rfl (RD.lss rfl rfl) rfl ?_
    refine TE_nil0 ?_
    refine pn_condD rfl (fun hc5 => ?_) (fun hc5 => ?_)
    · refine pn_skip ?_
      refine pn_seq ?_
      refine pn_block ?_
      refine pn_seq ?_
      refine pn_plain [6] rfl ?_
      refine TE_q rfl rfl (RD.fieldAddr (o := 2) Try.runUnderlying30 rfl rfl Try.sizeOf23 rfl) rfl ?_
      refine TE_l rfl rfl trivial rfl (RD.load (i := 0) (v := xe) Try.isAgg23 rfl rfl rfl) rfl ?_
      refine TE_q rfl rfl (RD.move rfl) rfl ?_
      refine TE_q rfl rfl (RD.idxR (i := i) (o := (i * 34 + 0)) Try.runUnderlying23 Try.sizeOf38 rfl hbxe rfl rfl (by omega) (by rfl)) rfl ?_
      refine TE_q rfl rfl (RD.fldR (i := i) (o' := (i * 34 + 0)) Try.runUnderlying38 rfl (by rfl) Try.sizeOf9 rfl hbxe (by omega)) rfl ?_
      refine TE_l rfl rfl trivial rfl (RD.ldR (i := i) (j := 0) (u := .string ((gt x.ents i).name)) Try.isAgg9 rfl hbxe (gt_some (by omega)) (by rfl) rfl (fun _ hw => hw.sp (fun a => by simp -failIfUnchanged <;> omega))) rfl ?_
      refine TE_q rfl rfl (RD.len_string Try.runUnderlying9 rfl) rfl ?_
      refine TE_q rfl rfl (RD.gtr rfl rfl) rfl ?_
      refine TE_nil0 ?_
      refine pn_condD rfl (fun hc6 => ?_) (fun hc6 => ?_)
      · refine pn_seq ?_
        refine pn_plainG [] [] rfl (fun a => by simp -failIfUnchanged <;> omega) ?_
        refine TE_q rfl rfl (RD.assign rfl) rfl ?_
        refine TE_nil0 ?_
        refine pn_ret ?_
        exact pn_doneS [] rfl rfl ⟨(congrArg (Value.int .i64) (great_2 (i := i) (by omega) (by omega))), rfl⟩ (fun _ => Nat.zero_le _) (fun _ he => nomatch he)
      · refine pn_skip ?_
        refine pn_plain [] rfl ?_
        refine TE_q rfl rfl (RD.move rfl) rfl ?_
        refine TE_q rfl rfl (RD.addI rfl rfl (by omega) (by omega)) rfl ?_
        refine TE_q rfl rfl (RD.assign rfl) rfl ?_
        refine TE_nil0 ?_
        exact pn_againS (i + 1) ⟨(by omega), (fun j hj => by rcases Nat.lt_or_ge j i with h | h; exact hall j h; obtain rfl : j = i := (by omega); omega)⟩ (by omega) ⟨rfl, rfl, trivial⟩ (fun a => by simp -failIfUnchanged <;> omega)
    · refine pn_exit ?_
      refine pn_seq ?_
      refine pn_plainG [] [] rfl (fun a => by simp -failIfUnchanged <;> omega) ?_
      refine TE_q rfl rfl (RD.assign rfl) rfl ?_
      refine TE_nil0 ?_
      refine pn_ret ?_
      exact pn_doneS [] rfl rfl ⟨(congrArg (Value.int .i64) (great_3 (by omega) (by omega) (by omega) (by omega) fun j hj => hall j (by omega))), rfl⟩ (fun _ => Nat.zero_le _) (fun _ he => nomatch he)

end Go.Proofs.Ytloljpefdecmhaa

namespace Go.Proofs.Ytloljpefdecmhaa
open Go Go.Mv
set_option maxRecDepth 8000
theorem chkT {x : Ob} {e : Bool} (h : obOkB x = e) (hc : e = true) : (0 : Int) = err (obOkB x) 70 := by rw [h, hc]; rfl
theorem chkF {x : Ob} {e : Bool} (h : obOkB x = e) (hc : e = false) : (70 : Int) = err (obOkB x) 70 := by rw [h, hc]; rfl
theorem idZ_symm (t : Nat → Int) : sameN 32 zId t = idZ t := by
  rw [Bool.eq_iff_iff, idZ, sameN_iff, sameN_iff]
  exact ⟨fun h i hi => (h i hi).symm, fun h i hi => (h i hi).symm⟩
theorem zLnk_same (g : Lnk) : same_lnk zLnk g = (decide (g.k = 0) && idZ g.id) := by
  simp only [same_lnk, zLnk, idZ_symm, Bool.and_true]
  congr 1
  exact decide_eq_decide.2 ⟨Eq.symm, Eq.symm⟩
theorem nilI_same (l : List (Nat → Int)) : sameIL [] l = !decide (0 < (l.length : Int)) := by
  cases l with
  | nil => rfl
  | cons a l => rw [show sameIL [] (a :: l) = false from rfl, decide_eq_true (by simp)]; rfl
theorem nilD_same (l : List UInt8) : decide ([] = l) = !decide (0 < (l.length : Int)) := by
  cases l with
  | nil => rfl
  | cons a l => rw [decide_eq_true (p := 0 < ((a :: l).length : Int)) (by simp)]; rfl
theorem nilS_same (s : ByteArray) : decide (⟨#[]⟩ = s) = !decide (0 < (s.size : Int)) := by
  by_cases h : s.size = 0
  · obtain rfl : s = ⟨#[]⟩ := by
      apply ByteArray.ext
      exact Array.eq_empty_of_size_eq_zero h
    rfl
  · rw [decide_eq_true (p := 0 < (s.size : Int)) (by omega), decide_eq_false (fun e => h (by rw [← e]; rfl))]; rfl
theorem chk2 {x : Ob} (hk : x.k = 2) : obOkB x = (treeB x.ents && (!decide (0 < (x.data.length : Int)) && (!(decide (0 < (x.pars.length : Int)) || !idZ x.t) && (!decide (0 < (x.m.size : Int)) && (decide (x.tg.k = 0) && idZ x.tg.id))))) := by
  have h21 : ¬ (2 : Int) = 1 := by decide
  simp only [obOkB, mayB, bareOb, hk, h21, if_true, if_false, obSame, Bool.true_and, sameG_self same_ent_self, nilD_same, idZ_symm, nilI_same, zLnk_same, nilS_same, Bool.not_or, Bool.not_not]
  generalize treeB x.ents = a
  generalize decide (0 < (x.data.length : Int)) = b
  generalize idZ x.t = c
  generalize decide (0 < (x.pars.length : Int)) = d
  generalize decide (x.tg.k = 0) = e
  generalize idZ x.tg.id = f
  generalize decide (0 < (x.m.size : Int)) = g
  cases a <;> cases b <;> cases c <;> cases d <;> cases e <;> cases f <;> cases g <;> rfl
theorem chk0 {x : Ob} (h1 : ¬ x.k = 1) (h2 : ¬ x.k = 2) (h3 : ¬ x.k = 3) (h4 : ¬ x.k = 4) : obOkB x = false := by
  simp only [obOkB, mayB, h1, h2, h3, h4, if_false, Bool.false_and]

end Go.Proofs.Ytloljpefdecmhaa
