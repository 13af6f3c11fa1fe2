import Derived.Test.YtiefjfcfijcgmaaGreatDoorRf5
import Derived.Test.YtiefjfcfijcgmaaGreatDoorMvC
namespace Go.Proofs.YtiefjfcfijcgmaaGreatDoor
open Go Go.Mv
set_option maxRecDepth 8000
theorem may_all : ∀ n : Fin 256, (!byteBad (UInt8.ofNat n.val)) = decide (33 ≤ n.val ∧ n.val < 126 ∧ n.val ≠ 94 ∧ n.val ≠ 58 ∧ n.val ≠ 63 ∧ n.val ≠ 42 ∧ n.val ≠ 91 ∧ n.val ≠ 92) := by decide +kernel
theorem may_eq (b : UInt8) : (!byteBad b) = decide (33 ≤ b.toNat ∧ b.toNat < 126 ∧ b.toNat ≠ 94 ∧ b.toNat ≠ 58 ∧ b.toNat ≠ 63 ∧ b.toNat ≠ 42 ∧ b.toNat ≠ 91 ∧ b.toNat ≠ 92) := by
  have := may_all ⟨b.toNat, b.toNat_lt⟩
  simpa using this
theorem may_T {b : UInt8} (h : (33 ≤ b.toNat ∧ b.toNat < 126 ∧ b.toNat ≠ 94 ∧ b.toNat ≠ 58 ∧ b.toNat ≠ 63 ∧ b.toNat ≠ 42 ∧ b.toNat ≠ 91 ∧ b.toNat ≠ 92)) : (!byteBad b) = true := by rw [may_eq, decide_eq_true h]
theorem may_F {b : UInt8} (h : ¬ (33 ≤ b.toNat ∧ b.toNat < 126 ∧ b.toNat ≠ 94 ∧ b.toNat ≠ 58 ∧ b.toNat ≠ 63 ∧ b.toNat ≠ 42 ∧ b.toNat ≠ 91 ∧ b.toNat ≠ 92)) : (!byteBad b) = false := by rw [may_eq, decide_eq_false h]
/-- A list of texts that is built up. -/
abbrev SbS := Option (Nat × Nat × List Value)
def sbV (l : List ByteArray) : SbS → Value
  | none => .slice none 0 0
  | some (b, cap, _) => .slice (some ⟨b, 0, none⟩) l.length cap
def sbM (l : List ByteArray) : SbS → Mem
  | none => []
  | some (b, _, tl) => [(b, .cells (l.map Value.string ++ tl).toArray 9 (0, 0))]
def SbOk (l : List ByteArray) : SbS → Prop
  | none => l = []
  | some (_, cap, tl) => l.length ≤ cap ∧ cap ≤ maxLen ∧ (l.map Value.string ++ tl).length = cap * 1
theorem elStr : ElI Tryz.prog 9 1 16 (.string ⟨#[]⟩) := by unfold ElI; kernel_rfl

set_option maxHeartbeats 1000000 in
theorem c_r4may (b : UInt8) (w : World) : Calls Tryz.prog 120 #[bcell b] w (Ret w [] fun v H1 => v = .bool (!byteBad b) ∧ H1 = []) := by
  refine fn_enter (args := [_]) Tryz.func120 rfl Tryz.ntmps120 rfl (Hp.nil w) ?_
  refine pn_seq ?_
  refine pn_plain [] rfl ?_
  refine TE_q rfl rfl (RD.assign rfl) rfl ?_
  refine TE_nil0 ?_
  refine pn_seq ?_
  refine pn_seq ?_
  refine pn_plain [] rfl ?_
  refine TE_q rfl rfl (RD.move rfl) rfl ?_
  refine TE_q rfl rfl (RD.lss rfl rfl) rfl ?_
  refine TE_q rfl rfl (RD.move rfl) rfl ?_
  (first | refine TE_isT ?_ | refine TE_isF ?_ | refine TE_dec (fun h102 => ?_) (fun h102 => ?_) | refine TE_ndec (fun h102 => ?_) (fun h102 => ?_) | refine TE_bool (fun h102 => ?_) (fun h102 => ?_))
  all_goals (first | (refine TE_s rfl rfl rfl rfl rfl ?_) | (refine TE_gq rfl rfl rfl rfl (RD.move rfl) rfl ?_))
  all_goals (first | (refine TE_s rfl rfl rfl rfl rfl ?_) | (refine TE_gq rfl rfl rfl rfl (RD.gtr rfl rfl) rfl ?_))
  all_goals (first | (refine TE_q rfl rfl (RD.pickT rfl rfl) rfl ?_) | (refine TE_q rfl rfl (RD.pickF rfl rfl) rfl ?_))
  all_goals refine TE_nil0 ?_
  all_goals first
    | (
        refine pn_condT rfl ?_
        refine pn_seq ?_
        refine pn_plain [] rfl ?_
        refine TE_q rfl rfl (RD.assign rfl) rfl ?_
        refine TE_nil0 ?_
        refine pn_ret ?_
        first | exact pn_done rfl rfl ⟨by rw [may_F (b := b) (by omega)]; rfl, rfl⟩ (List.nil_sublist _) (by simp) | exact pn_done rfl rfl ⟨by rw [may_T (b := b) (by omega)]; rfl, rfl⟩ (List.nil_sublist _) (by simp) | (by_cases h92 : (b.toNat : Int) = 92; (exact pn_done rfl rfl ⟨by rw [may_F (b := b) (by omega)]; show Value.bool (!decide ((b.toNat : Int) = 92)) = _; rw [decide_eq_true h92]; rfl, rfl⟩ (List.nil_sublist _) (by simp)); exact pn_done rfl rfl ⟨by rw [may_T (b := b) (by omega)]; show Value.bool (!decide ((b.toNat : Int) = 92)) = _; rw [decide_eq_false h92]; rfl, rfl⟩ (List.nil_sublist _) (by simp)))
    | (
        refine pn_condF rfl ?_
        refine pn_skip ?_
        refine pn_seq ?_
        refine pn_plain [] rfl ?_
        refine TE_q rfl rfl (RD.move rfl) rfl ?_
        refine TE_q rfl rfl (RD.neq rfl rfl) rfl ?_
        refine TE_q rfl rfl (RD.move rfl) rfl ?_
        (first | refine TE_isT ?_ | refine TE_isF ?_ | refine TE_dec (fun h302 => ?_) (fun h302 => ?_) | refine TE_ndec (fun h302 => ?_) (fun h302 => ?_) | refine TE_bool (fun h302 => ?_) (fun h302 => ?_))
        all_goals (first | (refine TE_s rfl rfl rfl rfl rfl ?_) | (refine TE_gq rfl rfl rfl rfl (RD.move rfl) rfl ?_))
        all_goals (first | (refine TE_s rfl rfl rfl rfl rfl ?_) | (refine TE_gq rfl rfl rfl rfl (RD.neq rfl rfl) rfl ?_))
        all_goals (first | (refine TE_q rfl rfl (RD.pickT rfl rfl) rfl ?_) | (refine TE_q rfl rfl (RD.pickF rfl rfl) rfl ?_))
        all_goals refine TE_q rfl rfl (RD.move rfl) rfl ?_
        all_goals (first | refine TE_isT ?_ | refine TE_isF ?_ | refine TE_dec (fun h306 => ?_) (fun h306 => ?_) | refine TE_ndec (fun h306 => ?_) (fun h306 => ?_) | refine TE_bool (fun h306 => ?_) (fun h306 => ?_))
        all_goals (first | (refine TE_s rfl rfl rfl rfl rfl ?_) | (refine TE_gq rfl rfl rfl rfl (RD.move rfl) rfl ?_))
        all_goals (first | (refine TE_s rfl rfl rfl rfl rfl ?_) | (refine TE_gq rfl rfl rfl rfl (RD.neq rfl rfl) rfl ?_))
        all_goals (first | (refine TE_q rfl rfl (RD.pickT rfl rfl) rfl ?_) | (refine TE_q rfl rfl (RD.pickF rfl rfl) rfl ?_))
        all_goals refine TE_q rfl rfl (RD.move rfl) rfl ?_
        all_goals (first | refine TE_isT ?_ | refine TE_isF ?_ | refine TE_dec (fun h310 => ?_) (fun h310 => ?_) | refine TE_ndec (fun h310 => ?_) (fun h310 => ?_) | refine TE_bool (fun h310 => ?_) (fun h310 => ?_))
        all_goals (first | (refine TE_s rfl rfl rfl rfl rfl ?_) | (refine TE_gq rfl rfl rfl rfl (RD.move rfl) rfl ?_))
        all_goals (first | (refine TE_s rfl rfl rfl rfl rfl ?_) | (refine TE_gq rfl rfl rfl rfl (RD.neq rfl rfl) rfl ?_))
        all_goals (first | (refine TE_q rfl rfl (RD.pickT rfl rfl) rfl ?_) | (refine TE_q rfl rfl (RD.pickF rfl rfl) rfl ?_))
        all_goals refine TE_q rfl rfl (RD.move rfl) rfl ?_
        all_goals (first | refine TE_isT ?_ | refine TE_isF ?_ | refine TE_dec (fun h314 => ?_) (fun h314 => ?_) | refine TE_ndec (fun h314 => ?_) (fun h314 => ?_) | refine TE_bool (fun h314 => ?_) (fun h314 => ?_))
        all_goals (first | (refine TE_s rfl rfl rfl rfl rfl ?_) | (refine TE_gq rfl rfl rfl rfl (RD.move rfl) rfl ?_))
        all_goals (first | (refine TE_s rfl rfl rfl rfl rfl ?_) | (refine TE_gq rfl rfl rfl rfl (RD.neq rfl rfl) rfl ?_))
        all_goals (first | (refine TE_q rfl rfl (RD.pickT rfl rfl) rfl ?_) | (refine TE_q rfl rfl (RD.pickF rfl rfl) rfl ?_))
        all_goals refine TE_q rfl rfl (RD.move rfl) rfl ?_
        all_goals (first | refine TE_isT ?_ | refine TE_isF ?_ | refine TE_dec (fun h318 => ?_) (fun h318 => ?_) | refine TE_ndec (fun h318 => ?_) (fun h318 => ?_) | refine TE_bool (fun h318 => ?_) (fun h318 => ?_))
        all_goals (first | (refine TE_s rfl rfl rfl rfl rfl ?_) | (refine TE_gq rfl rfl rfl rfl (RD.move rfl) rfl ?_))
        all_goals (first | (refine TE_s rfl rfl rfl rfl rfl ?_) | (refine TE_gq rfl rfl rfl rfl (RD.neq rfl rfl) rfl ?_))
        all_goals (first | (refine TE_q rfl rfl (RD.pickT rfl rfl) rfl ?_) | (refine TE_q rfl rfl (RD.pickF rfl rfl) rfl ?_))
        all_goals refine TE_q rfl rfl (RD.move rfl) rfl ?_
        all_goals (first | refine TE_isT ?_ | refine TE_isF ?_ | refine TE_dec (fun h322 => ?_) (fun h322 => ?_) | refine TE_ndec (fun h322 => ?_) (fun h322 => ?_) | refine TE_bool (fun h322 => ?_) (fun h322 => ?_))
        all_goals (first | (refine TE_s rfl rfl rfl rfl rfl ?_) | (refine TE_gq rfl rfl rfl rfl (RD.move rfl) rfl ?_))
        all_goals (first | (refine TE_s rfl rfl rfl rfl rfl ?_) | (refine TE_gq rfl rfl rfl rfl (RD.neq rfl rfl) rfl ?_))
        all_goals (first | (refine TE_q rfl rfl (RD.pickT rfl rfl) rfl ?_) | (refine TE_q rfl rfl (RD.pickF rfl rfl) rfl ?_))
        all_goals refine TE_q rfl rfl (RD.assign rfl) rfl ?_
        all_goals refine TE_nil0 ?_
        all_goals refine pn_ret ?_
        all_goals (first | exact pn_done rfl rfl ⟨by rw [may_F (b := b) (by omega)]; rfl, rfl⟩ (List.nil_sublist _) (by simp) | exact pn_done rfl rfl ⟨by rw [may_T (b := b) (by omega)]; rfl, rfl⟩ (List.nil_sublist _) (by simp) | (by_cases h92 : (b.toNat : Int) = 92; (exact pn_done rfl rfl ⟨by rw [may_F (b := b) (by omega)]; show Value.bool (!decide ((b.toNat : Int) = 92)) = _; rw [decide_eq_true h92]; rfl, rfl⟩ (List.nil_sublist _) (by simp)); exact pn_done rfl rfl ⟨by rw [may_T (b := b) (by omega)]; show Value.bool (!decide ((b.toNat : Int) = 92)) = _; rw [decide_eq_false h92]; rfl, rfl⟩ (List.nil_sublist _) (by simp))))
    | (
        first | refine pn_condD rfl (fun hc0 => ?_) (fun hc0 => ?_) | refine pn_condN rfl (fun hc0 => ?_) (fun hc0 => ?_) | refine pn_cond rfl (fun hc0 => ?_) (fun hc0 => ?_)
        · refine pn_seq ?_
          refine pn_plain [] rfl ?_
          refine TE_q rfl rfl (RD.assign rfl) rfl ?_
          refine TE_nil0 ?_
          refine pn_ret ?_
          first | exact pn_done rfl rfl ⟨by rw [may_F (b := b) (by omega)]; rfl, rfl⟩ (List.nil_sublist _) (by simp) | exact pn_done rfl rfl ⟨by rw [may_T (b := b) (by omega)]; rfl, rfl⟩ (List.nil_sublist _) (by simp) | (by_cases h92 : (b.toNat : Int) = 92; (exact pn_done rfl rfl ⟨by rw [may_F (b := b) (by omega)]; show Value.bool (!decide ((b.toNat : Int) = 92)) = _; rw [decide_eq_true h92]; rfl, rfl⟩ (List.nil_sublist _) (by simp)); exact pn_done rfl rfl ⟨by rw [may_T (b := b) (by omega)]; show Value.bool (!decide ((b.toNat : Int) = 92)) = _; rw [decide_eq_false h92]; rfl, rfl⟩ (List.nil_sublist _) (by simp))
        · refine pn_skip ?_
          refine pn_seq ?_
          refine pn_plain [] rfl ?_
          refine TE_q rfl rfl (RD.move rfl) rfl ?_
          refine TE_q rfl rfl (RD.neq rfl rfl) rfl ?_
          refine TE_q rfl rfl (RD.move rfl) rfl ?_
          (first | refine TE_isT ?_ | refine TE_isF ?_ | refine TE_dec (fun h302 => ?_) (fun h302 => ?_) | refine TE_ndec (fun h302 => ?_) (fun h302 => ?_) | refine TE_bool (fun h302 => ?_) (fun h302 => ?_))
          all_goals (first | (refine TE_s rfl rfl rfl rfl rfl ?_) | (refine TE_gq rfl rfl rfl rfl (RD.move rfl) rfl ?_))
          all_goals (first | (refine TE_s rfl rfl rfl rfl rfl ?_) | (refine TE_gq rfl rfl rfl rfl (RD.neq rfl rfl) rfl ?_))
          all_goals (first | (refine TE_q rfl rfl (RD.pickT rfl rfl) rfl ?_) | (refine TE_q rfl rfl (RD.pickF rfl rfl) rfl ?_))
          all_goals refine TE_q rfl rfl (RD.move rfl) rfl ?_
          all_goals (first | refine TE_isT ?_ | refine TE_isF ?_ | refine TE_dec (fun h306 => ?_) (fun h306 => ?_) | refine TE_ndec (fun h306 => ?_) (fun h306 => ?_) | refine TE_bool (fun h306 => ?_) (fun h306 => ?_))
          all_goals (first | (refine TE_s rfl rfl rfl rfl rfl ?_) | (refine TE_gq rfl rfl rfl rfl (RD.move rfl) rfl ?_))
          all_goals (first | (refine TE_s rfl rfl rfl rfl rfl ?_) | (refine TE_gq rfl rfl rfl rfl (RD.neq rfl rfl) rfl ?_))
          all_goals (first | (refine TE_q rfl rfl (RD.pickT rfl rfl) rfl ?_) | (refine TE_q rfl rfl (RD.pickF rfl rfl) rfl ?_))
          all_goals refine TE_q rfl rfl (RD.move rfl) rfl ?_
          all_goals (first | refine TE_isT ?_ | refine TE_isF ?_ | refine TE_dec (fun h310 => ?_) (fun h310 => ?_) | refine TE_ndec (fun h310 => ?_) (fun h310 => ?_) | refine TE_bool (fun h310 => ?_) (fun h310 => ?_))
          all_goals (first | (refine TE_s rfl rfl rfl rfl rfl ?_) | (refine TE_gq rfl rfl rfl rfl (RD.move rfl) rfl ?_))
          all_goals (first | (refine TE_s rfl rfl rfl rfl rfl ?_) | (refine TE_gq rfl rfl rfl rfl (RD.neq rfl rfl) rfl ?_))
          all_goals (first | (refine TE_q rfl rfl (RD.pickT rfl rfl) rfl ?_) | (refine TE_q rfl rfl (RD.pickF rfl rfl) rfl ?_))
          all_goals refine TE_q rfl rfl (RD.move rfl) rfl ?_
          all_goals (first | refine TE_isT ?_ | refine TE_isF ?_ | refine TE_dec (fun h314 => ?_) (fun h314 => ?_) | refine TE_ndec (fun h314 => ?_) (fun h314 => ?_) | refine TE_bool (fun h314 => ?_) (fun h314 => ?_))
          all_goals (first | (refine TE_s rfl rfl rfl rfl rfl ?_) | (refine TE_gq rfl rfl rfl rfl (RD.move rfl) rfl ?_))
          all_goals (first | (refine TE_s rfl rfl rfl rfl rfl ?_) | (refine TE_gq rfl rfl rfl rfl (RD.neq rfl rfl) rfl ?_))
          all_goals (first | (refine TE_q rfl rfl (RD.pickT rfl rfl) rfl ?_) | (refine TE_q rfl rfl (RD.pickF rfl rfl) rfl ?_))
          all_goals refine TE_q rfl rfl (RD.move rfl) rfl ?_
          all_goals (first | refine TE_isT ?_ | refine TE_isF ?_ | refine TE_dec (fun h318 => ?_) (fun h318 => ?_) | refine TE_ndec (fun h318 => ?_) (fun h318 => ?_) | refine TE_bool (fun h318 => ?_) (fun h318 => ?_))
          all_goals (first | (refine TE_s rfl rfl rfl rfl rfl ?_) | (refine TE_gq rfl rfl rfl rfl (RD.move rfl) rfl ?_))
          all_goals (first | (refine TE_s rfl rfl rfl rfl rfl ?_) | (refine TE_gq rfl rfl rfl rfl (RD.neq rfl rfl) rfl ?_))
          all_goals (first | (refine TE_q rfl rfl (RD.pickT rfl rfl) rfl ?_) | (refine TE_q rfl rfl (RD.pickF rfl rfl) rfl ?_))
          all_goals refine TE_q rfl rfl (RD.move rfl) rfl ?_
          all_goals (first | refine TE_isT ?_ | refine TE_isF ?_ | refine TE_dec (fun h322 => ?_) (fun h322 => ?_) | refine TE_ndec (fun h322 => ?_) (fun h322 => ?_) | refine TE_bool (fun h322 => ?_) (fun h322 => ?_))
          all_goals (first | (refine TE_s rfl rfl rfl rfl rfl ?_) | (refine TE_gq rfl rfl rfl rfl (RD.move rfl) rfl ?_))
          all_goals (first | (refine TE_s rfl rfl rfl rfl rfl ?_) | (refine TE_gq rfl rfl rfl rfl (RD.neq rfl rfl) rfl ?_))
          all_goals (first | (refine TE_q rfl rfl (RD.pickT rfl rfl) rfl ?_) | (refine TE_q rfl rfl (RD.pickF rfl rfl) rfl ?_))
          all_goals refine TE_q rfl rfl (RD.assign rfl) rfl ?_
          all_goals refine TE_nil0 ?_
          all_goals refine pn_ret ?_
          all_goals (first | exact pn_done rfl rfl ⟨by rw [may_F (b := b) (by omega)]; rfl, rfl⟩ (List.nil_sublist _) (by simp) | exact pn_done rfl rfl ⟨by rw [may_T (b := b) (by omega)]; rfl, rfl⟩ (List.nil_sublist _) (by simp) | (by_cases h92 : (b.toNat : Int) = 92; (exact pn_done rfl rfl ⟨by rw [may_F (b := b) (by omega)]; show Value.bool (!decide ((b.toNat : Int) = 92)) = _; rw [decide_eq_true h92]; rfl, rfl⟩ (List.nil_sublist _) (by simp)); exact pn_done rfl rfl ⟨by rw [may_T (b := b) (by omega)]; show Value.bool (!decide ((b.toNat : Int) = 92)) = _; rw [decide_eq_false h92]; rfl, rfl⟩ (List.nil_sublist _) (by simp))))

theorem TE_appendT {rd : Option Nat} {ops : Array Oper} {p : Pst} {q : List Nat} {C : Ctx} {L M : Mem} {k : Nat} {tr : Tr} {E : Env} {d : Nat} {ty : TypeId} {ps : String} {af : Array Edge} {g : Option (Nat × Bool)} {s x : Operand} {l : List ByteArray} {st : SbS} {y : ByteArray} {bv : Nat} {B : Mem}
    (hM : M = (bv, .cells #[.string y] 9 (0, 0)) :: (sbM l st ++ B)) (ho : ops[k]? = some ⟨some d, .call ⟨.builtin .append, #[s, x], #[162, 162]⟩, ty, ps, af, g⟩) (hl : ld ops q k = true) (hg : GOK ops E g) (hd : Nat.blt d C.N = true)
    (hs : evalE E s = some (sbV l st)) (hx : evalE E x = some (.slice (some ⟨bv, 0, none⟩) 1 1)) (hok : SbOk l st) (hlen : l.length + 1 ≤ 1000000) (hw : ∀ e ∈ sbM l st, C.w0.heap.size ≤ e.1 ∨ e.1 ∈ C.X)
    (h : ∀ st', SbOk (l ++ [y]) st' → (∀ e ∈ sbM (l ++ [y]) st', C.w0.heap.size ≤ e.1 ∨ e.1 ∈ C.X) → TE Tryz.prog rd ops p q C L tr ((d, sbV (l ++ [y]) st') :: E) ((bv, .cells #[.string y] 9 (0, 0)) :: (sbM (l ++ [y]) st' ++ B))) : TE Tryz.prog rd ops p q C L (.op k tr) E M := by
  subst hM
  have hsrc : Src C ((bv, .cells #[.string y] 9 (0, 0)) :: (sbM l st ++ B) ++ L) (.slice (some ⟨bv, 0, none⟩) 1 1) 1 [.string y] := Src.blk (i := 0) (ys := [.string y]) (tl := []) rfl
  rcases st with _ | ⟨b, cap, tl⟩
  · obtain rfl : l = [] := hok
    refine TE_appendN (ys := [.string y]) ho hl hg hd Tryz.underlying162 elStr rfl rfl hs hx hsrc rfl (by simp [Value.oneCell']) (by decide) (by decide) (by decide) ?_
    intro b' cap' tl' h1 h2 h3 h4
    refine TE_perm ((bv, .cells #[.string y] 9 (0, 0)) :: (sbM ([] ++ [y]) (some (b', cap', tl')) ++ B)) (.swap _ _ _) (h (some (b', cap', tl')) ⟨h1, h2, h3⟩ (fun e he => ?_))
    simp only [sbM, List.mem_cons, List.not_mem_nil, or_false] at he
    subst he; exact .inl h4
  · refine TE_appendS (i := 1) (n := l.length) (xs := l.map Value.string) (tl := tl) (ys := [.string y]) ho hl hg hd Tryz.underlying162 elStr rfl rfl hs hx rfl (by simp) hok.2.2 hok.1 hok.2.1 hsrc rfl (by simp [Value.oneCell']) (by decide) (maxLen_ge (by omega)) (by omega) (hw (b, .cells (l.map Value.string ++ tl).toArray 9 (0, 0)) List.mem_cons_self) ?_
    intro b' cap' tl' h1 h2 h3 h4
    have h9 := h (some (b', cap', tl')) ⟨by simpa using h1, h2, by rw [List.map_append]; exact h3⟩ (fun e he => by
      simp only [sbM, List.mem_cons, List.not_mem_nil, or_false] at he
      subst he
      rcases h4 with rfl | h4
      · exact hw (b', .cells (l.map Value.string ++ tl).toArray 9 (0, 0)) List.mem_cons_self
      · exact .inl h4)
    have e : sbV (l ++ [y]) (some (b', cap', tl')) = .slice (some ⟨b', 0, none⟩) (l.length + 1) cap' := by simp [sbV]
    have e2 : sbM (l ++ [y]) (some (b', cap', tl')) = [(b', .cells (l.map Value.string ++ [Value.string y] ++ tl').toArray 9 (0, 0))] := by simp [sbM]
    rw [e, e2] at h9; exact h9
def ptsOf (ps : List ByteArray) : List (List UInt8) := ps.map fun x => x.data.toList
theorem map_inj : ∀ {a b : List ByteArray}, a.map (fun x => x.data.toList) = b.map (fun x => x.data.toList) → a = b
  | [], [], _ => rfl
  | [], _ :: _, h => by simp at h
  | _ :: _, [], h => by simp at h
  | x :: a, y :: b, h => by
    simp only [List.map_cons, List.cons.injEq] at h
    rw [bytes_eq h.1, map_inj h.2]
theorem slash_iff {s : ByteArray} {i : Nat} (hlt : i < s.data.toList.length) (hi : ¬ i = s.size) : (i = s.size ∨ s.data.toList[i]? = some 47) ↔ ((s.data.toList[i]).toNat : Int) = 47 := by
  rw [List.getElem?_eq_getElem hlt]
  simp only [hi, false_or, Option.some.injEq]
  constructor
  · intro h; rw [h]; rfl
  · intro h; apply UInt8.toNat_inj.1; show _ = 47; omega
/-- What is known while the parts are told. -/
def ptI (s : ByteArray) (i fr : Nat) (ps : List ByteArray) : Prop := (i ≤ s.size ∧ fr ≤ i ∧ pt [] s.data.toList = ptsOf ps ++ pt ((s.data.toList.take i).drop fr) (s.data.toList.drop i)) ∨ (i = s.size + 1 ∧ pt [] s.data.toList = ptsOf ps)
theorem ptI0 (s : ByteArray) : ptI s 0 0 [] := .inl ⟨Nat.zero_le _, Nat.le_refl _, by simp [ptsOf]⟩
theorem pt_go {s : ByteArray} {i fr : Nat} {ps : List ByteArray} {c : UInt8} (h : ptI s i fr ps) (hi : i ≤ s.size) (hc : s.data.toList[i]? = some c) (h47 : c ≠ 47) : ptI s (i + 1) fr ps := by
  rcases h with ⟨_, h1, h2⟩ | ⟨h1, _⟩
  · obtain ⟨hlt, rfl⟩ := List.getElem?_eq_some_iff.1 hc
    refine .inl ⟨by have : s.data.toList.length = s.size := by simp
                    omega, by omega, ?_⟩
    rw [h2, List.drop_eq_getElem_cons hlt, pt, if_neg h47]
    congr 2
    rw [List.take_succ_eq_append_getElem hlt, List.drop_append_of_le_length (by rw [List.length_take]; omega)]
  · omega
theorem pt_slash {s : ByteArray} {i fr : Nat} {ps : List ByteArray} {c : UInt8} (h : ptI s i fr ps) (hi : i ≤ s.size) (hc : s.data.toList[i]? = some c) (h47 : c = 47) : ptI s (i + 1) (i + 1) (ps ++ [s.extract fr i]) := by
  rcases h with ⟨_, h1, h2⟩ | ⟨h1, _⟩
  · obtain ⟨hlt, rfl⟩ := List.getElem?_eq_some_iff.1 hc
    refine .inl ⟨by have : s.data.toList.length = s.size := by simp
                    omega, by omega, ?_⟩
    rw [h2, List.drop_eq_getElem_cons hlt, pt, if_pos h47]
    simp only [ptsOf, List.map_append, List.map_cons, List.map_nil, List.append_assoc, List.cons_append, List.nil_append, extract_toList]
    rw [show (s.data.toList.take (i + 1)).drop (i + 1) = [] from List.drop_eq_nil_of_le (by rw [List.length_take]; omega)]
  · omega
theorem pt_last {s : ByteArray} {i fr : Nat} {ps : List ByteArray} (h : ptI s i fr ps) (hi : i = s.size) : ptI s (i + 1) (i + 1) (ps ++ [s.extract fr i]) := by
  rcases h with ⟨_, h1, h2⟩ | ⟨h1, _⟩
  · refine .inr ⟨by omega, ?_⟩
    have hl : s.data.toList.length = s.size := by simp
    rw [h2, show s.data.toList.drop i = [] from List.drop_eq_nil_of_le (by omega)]
    simp only [pt, ptsOf, List.map_append, List.map_cons, List.map_nil, extract_toList]
  · omega
theorem pt_done {s : ByteArray} {i fr : Nat} {ps : List ByteArray} (h : ptI s i fr ps) (hi : ¬ i ≤ s.size) : ps = partsOf s ∧ i = s.size + 1 := by
  rcases h with ⟨h1, _⟩ | ⟨h1, h2⟩
  · exact absurd h1 hi
  · refine ⟨map_inj ?_, h1⟩
    rw [partsOf_pt, h2]; rfl
theorem ptI_from {s : ByteArray} {i fr : Nat} {ps : List ByteArray} (h : ptI s i fr ps) (hi : i ≤ s.size) : fr ≤ i := by
  rcases h with ⟨_, h1, _⟩ | ⟨h1, _⟩
  · exact h1
  · omega

set_option maxHeartbeats 2000000 in
theorem c_r4parts (s : ByteArray) (w : World) (hs : s.size ≤ 100) : Calls Tryz.prog 121 #[.string s] w (Ret w [] fun v H1 => ∃ st, v = sbV (partsOf s) st ∧ H1 = sbM (partsOf s) st ∧ SbOk (partsOf s) st) := by
  refine fn_enter (args := [_]) Tryz.func121 rfl Tryz.ntmps121 rfl (Hp.nil w) ?_
  refine pn_seq ?_
  refine pn_plain [] rfl ?_
  refine TE_q rfl rfl (RD.assign rfl) rfl ?_
  refine TE_nil0 ?_
  refine pn_seq ?_
  refine pn_plain [] rfl ?_
  refine TE_q rfl rfl (RD.assign rfl) rfl ?_
  refine TE_nil0 ?_
  refine pn_seq ?_
  refine pn_plain [] rfl ?_
  refine TE_q rfl rfl (RD.assign rfl) rfl ?_
  refine TE_nil0 ?_
  refine pn_seq ?_
  refine pn_seq ?_
  refine pn_plain [] rfl ?_
  refine TE_q rfl rfl (RD.assign rfl) rfl ?_
  refine TE_nil0 ?_
  refine pn_block ?_
  refine pn_loop (σ := Nat × Nat × List ByteArray × SbS) (fun x => [(5, .int .i64 (x.1 : Int)), (4, .int .i64 (x.2.1 : Int)), (3, sbV x.2.2.1 x.2.2.2), (0, .string s)]) (fun x => sbM x.2.2.1 x.2.2.2) (fun x => x.1 ≤ s.size + 1 ∧ ptI s x.1 x.2.1 x.2.2.1 ∧ SbOk x.2.2.1 x.2.2.2 ∧ x.2.2.1.length ≤ x.1 ∧ ∀ e ∈ sbM x.2.2.1 x.2.2.2, w.heap.size ≤ e.1 ∨ e.1 ∈ []) (fun x => s.size + 1 - x.1) (0, 0, [], none) ⟨by omega, ptI0 s, rfl, Nat.le_refl _, fun e he => by simp [sbM] at he⟩ ⟨rfl, rfl, rfl, rfl, trivial⟩ (List.Sublist.refl _) ?_
  rintro ⟨i, fr, ps, st⟩ ⟨hi, hI, hok, hn, hX⟩; dsimp only at hi hI hok hn hX ⊢
  refine pn_seq ?_
  refine pn_seq ?_
  refine pn_plain [2] rfl ?_
  refine TE_q rfl rfl (RD.move rfl) rfl ?_
  refine TE_q rfl rfl (RD.move rfl) rfl ?_
  refine TE_q rfl rfl (RD.len_string Tryz.runUnderlying9 rfl) rfl ?_
  refine TE_q rfl rfl (RD.leq rfl rfl) rfl ?_
  refine TE_nil0 ?_
  first | refine pn_condD rfl (fun hc0 => ?_) (fun hc0 => ?_) | refine pn_condN rfl (fun hc0 => ?_) (fun hc0 => ?_) | refine pn_cond rfl (fun hc0 => ?_) (fun hc0 => ?_)
  · refine pn_skip ?_
    refine pn_seq ?_
    refine pn_block ?_
    refine pn_seq ?_
    have hfr := ptI_from hI (by omega)
    refine pn_cut (σ := Unit) (fun _ => [(21, .bool (decide (i = s.size ∨ s.data.toList[i]? = some 47))), (5, .int .i64 (i : Int)), (4, .int .i64 (fr : Int)), (3, sbV ps st), (0, .string s)]) (fun _ => sbM ps st) (fun _ => True) ?_ ?_
    · refine pn_plain [2] rfl ?_
      refine TE_q rfl rfl (RD.move rfl) rfl ?_
      refine TE_q rfl rfl (RD.move rfl) rfl ?_
      refine TE_q rfl rfl (RD.len_string Tryz.runUnderlying9 rfl) rfl ?_
      refine TE_q rfl rfl (RD.eql rfl rfl) rfl ?_
      refine TE_q rfl rfl (RD.move rfl) rfl ?_
      refine TE_dec (fun h604 => ?_) (fun h604 => ?_)
      · refine TE_s rfl rfl rfl rfl rfl ?_
        refine TE_s rfl rfl rfl rfl rfl ?_
        refine TE_s rfl rfl rfl rfl rfl ?_
        refine TE_s rfl rfl rfl rfl rfl ?_
        refine TE_q rfl rfl (RD.pickT rfl rfl) rfl ?_
        refine TE_nil0 ?_
        exact pn_give () trivial ⟨by rw [decide_eq_true (Or.inl (by omega))]; rfl, rfl, rfl, rfl, rfl, trivial⟩ (fun w h => h)
      · have hlt : i < s.data.toList.length := (by have h9 : s.data.toList.length = s.size := (by simp); omega)
        refine TE_gq rfl rfl rfl rfl (RD.move rfl) rfl ?_
        refine TE_gq rfl rfl rfl rfl (RD.move rfl) rfl ?_
        refine TE_gq rfl rfl rfl rfl (RD.indexStr Tryz.underlying9 rfl rfl rfl (List.getElem?_eq_getElem hlt)) rfl ?_
        refine TE_gq rfl rfl rfl rfl (RD.eql rfl rfl) rfl ?_
        refine TE_q rfl rfl (RD.pickF rfl rfl) rfl ?_
        refine TE_nil0 ?_
        exact pn_give () trivial ⟨by rw [show decide (i = s.size ∨ s.data.toList[i]? = some 47) = decide (((s.data.toList[i]).toNat : Int) = 47) from decide_eq_decide.2 (slash_iff hlt (by omega))]; rfl, rfl, rfl, rfl, rfl, trivial⟩ (fun w h => h)
    rintro - -
    first | refine pn_condD rfl (fun hc1 => ?_) (fun hc1 => ?_) | refine pn_condN rfl (fun hc1 => ?_) (fun hc1 => ?_) | refine pn_cond rfl (fun hc1 => ?_) (fun hc1 => ?_)
    · refine pn_seq ?_
      refine pn_plain [] rfl ?_
      refine TE_q rfl rfl (RD.move rfl) rfl ?_
      refine TE_q rfl rfl (RD.move rfl) rfl ?_
      refine TE_q rfl rfl (RD.move rfl) rfl ?_
      refine TE_q rfl rfl (RD.move rfl) rfl ?_
      refine TE_q rfl rfl (RD.sliceStr Tryz.underlying9 rfl ⟨_, rfl⟩ ⟨_, rfl⟩ hfr (by omega)) rfl ?_
      refine TE_buildSlice (cells := #[.string (s.extract fr i)]) rfl Tryz.runUnderlying162 Tryz.sizeOf9 Tryz.zeroValue9 rfl rfl rfl (by kernel_rfl) trivial rfl fun bv hbv => ?_
      refine TE_appendT (B := []) (y := s.extract fr i) (l := ps) (st := st) (by simp) rfl rfl trivial rfl rfl rfl hok (by omega) hX ?_
      intro st1 hok1 hX1
      refine TE_q rfl rfl (RD.assign rfl) rfl ?_
      refine TE_nil0 ?_
      refine pn_plain [] rfl ?_
      refine TE_q rfl rfl (RD.move rfl) rfl ?_
      refine TE_q rfl rfl (RD.addI rfl rfl (by omega) (by omega)) rfl ?_
      refine TE_q rfl rfl (RD.assign rfl) rfl ?_
      refine TE_nil0 ?_
      refine pn_plain [] rfl ?_
      refine TE_q rfl rfl (RD.move rfl) rfl ?_
      refine TE_q rfl rfl (RD.addI rfl rfl (by omega) (by omega)) rfl ?_
      refine TE_q rfl rfl (RD.assign rfl) rfl ?_
      refine TE_nil0 ?_
      (first | exact pn_again (i + 1, i + 1, ps ++ [s.extract fr i], st1) ⟨by show i + 1 ≤ s.size + 1; omega, hc1.elim (fun h => pt_last hI h) (fun h => pt_slash hI (by omega) h rfl), hok1, by simp only [List.length_append, List.length_cons, List.length_nil]; omega, hX1⟩ (by show s.size + 1 - (i + 1) < s.size + 1 - i; omega) ⟨rfl, rfl, rfl, rfl, trivial⟩ (.cons _ (by rw [List.append_nil]; exact List.Sublist.refl _)) | (have hlt : i < s.data.toList.length := (by have h1 : s.data.toList.length = s.size := (by simp); have h2 : ¬ i = s.size := fun h => hc1 (.inl h); omega); exact pn_again (i + 1, fr, ps, st) ⟨by show i + 1 ≤ s.size + 1; omega, pt_go hI (by omega) (List.getElem?_eq_getElem hlt) (fun h => hc1 (.inr (by rw [List.getElem?_eq_getElem hlt, h]))), hok, by show ps.length ≤ i + 1; omega, hX⟩ (by show s.size + 1 - (i + 1) < s.size + 1 - i; omega) ⟨rfl, rfl, rfl, rfl, trivial⟩ (List.Sublist.refl _)))
    · refine pn_skip ?_
      refine pn_plain [] rfl ?_
      refine TE_q rfl rfl (RD.move rfl) rfl ?_
      refine TE_q rfl rfl (RD.addI rfl rfl (by omega) (by omega)) rfl ?_
      refine TE_q rfl rfl (RD.assign rfl) rfl ?_
      refine TE_nil0 ?_
      (first | exact pn_again (i + 1, i + 1, ps ++ [s.extract fr i], st1) ⟨by show i + 1 ≤ s.size + 1; omega, hc1.elim (fun h => pt_last hI h) (fun h => pt_slash hI (by omega) h rfl), hok1, by simp only [List.length_append, List.length_cons, List.length_nil]; omega, hX1⟩ (by show s.size + 1 - (i + 1) < s.size + 1 - i; omega) ⟨rfl, rfl, rfl, rfl, trivial⟩ (.cons _ (by rw [List.append_nil]; exact List.Sublist.refl _)) | (have hlt : i < s.data.toList.length := (by have h1 : s.data.toList.length = s.size := (by simp); have h2 : ¬ i = s.size := fun h => hc1 (.inl h); omega); exact pn_again (i + 1, fr, ps, st) ⟨by show i + 1 ≤ s.size + 1; omega, pt_go hI (by omega) (List.getElem?_eq_getElem hlt) (fun h => hc1 (.inr (by rw [List.getElem?_eq_getElem hlt, h]))), hok, by show ps.length ≤ i + 1; omega, hX⟩ (by show s.size + 1 - (i + 1) < s.size + 1 - i; omega) ⟨rfl, rfl, rfl, rfl, trivial⟩ (List.Sublist.refl _)))
  · refine pn_exit ?_
    refine pn_seq ?_
    refine pn_plain [] rfl ?_
    refine TE_q rfl rfl (RD.move rfl) rfl ?_
    refine TE_q rfl rfl (RD.assign rfl) rfl ?_
    refine TE_nil0 ?_
    refine pn_ret ?_
    obtain ⟨rfl, -⟩ := pt_done hI (by omega); exact pn_doneF rfl ⟨_, _, rfl, rfl, rfl⟩ ⟨st, rfl, rfl, hok⟩ (fun w h => h) (where_ hX)

end Go.Proofs.YtiefjfcfijcgmaaGreatDoor
