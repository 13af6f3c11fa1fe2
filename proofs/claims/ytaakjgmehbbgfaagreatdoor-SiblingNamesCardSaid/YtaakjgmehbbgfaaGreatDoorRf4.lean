import Derived.Test.YtaakjgmehbbgfaaGreatDoorRf3
namespace Go.Proofs.YtaakjgmehbbgfaaGreatDoor
open Go Go.Mv
set_option maxRecDepth 4000
def theRules (x4 x6 x8 x10 x13 : Nat) : List RuleX := [(1, 122, []), (2, 123, []), (3, 148, [.pointer (some ⟨x4, 0, none⟩)]), (4, 148, [.pointer (some ⟨x6, 0, none⟩)]), (5, 151, [.pointer (some ⟨x8, 0, none⟩)]), (6, 148, [.pointer (some ⟨x10, 0, none⟩)]), (7, 131, []), (8, 151, [.pointer (some ⟨x13, 0, none⟩)])]
def fnV (f : Nat) : Value := .func (.func f) #[] #[]
def rulesBx (x4 x6 x8 x10 x13 : Nat) (H : Mem) : Mem := (x13, .cells #[.string ⟨#[64, 123]⟩] 9 (0, 0)) :: (x10, .cells #[fnV 129] 143 (0, 0)) :: (x8, .cells #[.string ⟨#[46, 46]⟩] 9 (0, 0)) :: (x6, .cells #[fnV 126] 143 (0, 0)) :: (x4, .cells #[fnV 125] 143 (0, 0)) :: H
def rulesM (bc bs x4 x6 x8 x10 x13 : Nat) : Mem := (bc, .cells #[.slice (some ⟨bs, 0, none⟩) 8 8] 167 (0, 0)) :: (bs, .cells (rulesL (theRules x4 x6 x8 x10 x13)).toArray 145 (0, 0)) :: rulesBx x4 x6 x8 x10 x13 []

theorem c_rules (w : World) : Calls Tryz.prog 103 #[] w (Ret w [] fun v H1 => ∃ bc bs x4 x6 x8 x10 x13, v = .func (.func 132) #[] #[.pointer (some ⟨bc, 0, none⟩)] ∧ H1 = rulesM bc bs x4 x6 x8 x10 x13) := by
  refine fn_enter (args := []) Tryz.func103 rfl Tryz.ntmps103 rfl (Hp.nil w) ?_
  refine pn_seq ?_
  refine pn_plain [] rfl ?_
  refine TE_q rfl rfl (RD.assign rfl) rfl ?_
  refine TE_nil0 ?_
  refine pn_seq ?_
  refine pn_plain [] rfl ?_
  refine TE_q rfl rfl (RD.build rfl (build_rule 1 122 [])) rfl ?_
  refine TE_q rfl rfl (RD.build rfl (build_rule 2 123 [])) rfl ?_
  refine TE_call rfl rfl trivial Tryz.call124 rfl rfl rfl (fun w hs' => c_byPart _ w rfl) ?_
  rintro v4 H2 ⟨x4, rfl, rfl⟩ h4
  refine TE_q rfl rfl (RD.build rfl (build_rule 3 148 [.pointer (some ⟨x4, 0, none⟩)])) rfl ?_
  refine TE_call rfl rfl trivial Tryz.call124 rfl rfl rfl (fun w hs' => c_byPart _ w rfl) ?_
  rintro v6 H4 ⟨x6, rfl, rfl⟩ h6
  refine TE_q rfl rfl (RD.build rfl (build_rule 4 148 [.pointer (some ⟨x6, 0, none⟩)])) rfl ?_
  refine TE_call rfl rfl trivial Tryz.call128 rfl rfl rfl (fun w hs' => c_has _ w) ?_
  rintro v8 H6 ⟨x8, rfl, rfl⟩ h8
  refine TE_q rfl rfl (RD.build rfl (build_rule 5 151 [.pointer (some ⟨x8, 0, none⟩)])) rfl ?_
  refine TE_call rfl rfl trivial Tryz.call124 rfl rfl rfl (fun w hs' => c_byPart _ w rfl) ?_
  rintro v10 H8 ⟨x10, rfl, rfl⟩ h10
  refine TE_q rfl rfl (RD.build rfl (build_rule 6 148 [.pointer (some ⟨x10, 0, none⟩)])) rfl ?_
  refine TE_q rfl rfl (RD.build rfl (build_rule 7 131 [])) rfl ?_
  refine TE_call rfl rfl trivial Tryz.call128 rfl rfl rfl (fun w hs' => c_has _ w) ?_
  rintro v13 H11 ⟨x13, rfl, rfl⟩ h13
  refine TE_q rfl rfl (RD.build rfl (build_rule 8 151 [.pointer (some ⟨x13, 0, none⟩)])) rfl ?_
  refine TE_buildSlice (cells := (rulesL (theRules x4 x6 x8 x10 x13)).toArray) rfl Tryz.runUnderlying167 Tryz.sizeOf145 Tryz.zeroValue145 rfl rfl rfl (by kernel_rfl) trivial rfl fun bs hbs => ?_
  refine TE_alloc rfl Tryz.zeroValue167 trivial rfl fun b1 hb1 => ?_
  refine TE_store (i := 0) rfl Tryz.sizeOf167 trivial rfl rfl rfl rfl rfl rfl (.inl (by assumption)) ?_
  refine TE_nil0 ?_
  refine pn_seq ?_
  refine pn_plain [] rfl ?_
  refine TE_q rfl rfl (RD.makeFunc rfl rfl) rfl ?_
  refine TE_q rfl rfl (RD.assign rfl) rfl ?_
  refine TE_nil0 ?_
  refine pn_ret ?_
  exact pn_done rfl rfl ⟨b1, bs, x4, x6, x8, x10, x13, rfl, rfl⟩ (List.Sublist.refl _) (by simp at h4 h6 h8 h10 h13; simp [rulesM, rulesBx]; exact ⟨hb1, hbs, h13, h10, h8, h6, h4⟩)

def brk (n : Int) (s : ByteArray) : Bool := bif decide (n = 1) then pLong s else bif decide (n = 2) then byByteB s else bif decide (n = 3) then pPart pEmpty s else bif decide (n = 4) then pPart pDot s else bif decide (n = 5) then pHas ⟨#[46, 46]⟩ s else bif decide (n = 6) then pPart pLock s else bif decide (n = 7) then pEnd s else pHas ⟨#[64, 123]⟩ s
/-- P4.1: the first rule that a name breaks. -/
def breaksN (s : ByteArray) : Int := (([1, 2, 3, 4, 5, 6, 7, 8] : List Int).find? fun n => brk n s).getD 0
theorem find_first {f : Int → Bool} : ∀ (rs pre : List RuleX) (x : RuleX), (pre ++ [x]) <+: rs → (∀ y ∈ pre, f y.1 = false) → f x.1 = true → (rs.map (·.1)).find? f = some x.1
  | [], pre, x, h, _, _ => by have := h.length_le; simp at this
  | r :: rs, [], x, h, _, hx => by
    obtain ⟨t, ht⟩ := h
    simp at ht
    rw [ht.1] at hx
    simp [ht.1, hx]
  | r :: rs, y :: pre, x, h, hp, hx => by
    obtain ⟨t, ht⟩ := h
    simp at ht
    have hy := hp y (by simp)
    rw [ht.1] at hy
    have := find_first rs pre x ⟨t, by simpa using ht.2⟩ (fun z hz => hp z (by simp [hz])) hx
    simp [hy]; simpa using this
theorem find_none {f : Int → Bool} {rs : List RuleX} (h : ∀ y ∈ rs, f y.1 = false) : (rs.map (·.1)).find? f = none := by
  simp only [List.find?_eq_none, List.mem_map]
  rintro n ⟨y, hy, rfl⟩
  simp [h y hy]
theorem rule_call {x4 x6 x8 x10 x13 : Nat} {g : Obj} (hg : GOk g) (s : ByteArray) (hs : s.size < 4294967281) : ∀ x ∈ theRules x4 x6 x8 x10 x13, (∀ args w, (callFunc x.2.1 args).run Tryz.prog w = .ok (.enter x.2.1 args) w) ∧
    ∀ w, Hp (rulesBx x4 x6 x8 x10 x13 [(0, g)]) w → Calls Tryz.prog x.2.1 (.string s :: x.2.2).toArray w (Ret w [] fun v H1 => v = .bool (brk x.1 s) ∧ H1 = []) := by
  intro x hx
  simp only [theRules, List.mem_cons, List.not_mem_nil, or_false] at hx
  rcases hx with rfl | rfl | rfl | rfl | rfl | rfl | rfl | rfl
  · exact ⟨Tryz.call122, fun w hH => c_rule1 s w⟩
  · exact ⟨Tryz.call123, fun w hH => c_byByte s w⟩
  · exact ⟨Tryz.call148, fun w hH => c_byPart1 125 pEmpty s x4 g w Tryz.call125 (fun s w _ => c_rule2 s w) hg (hH.sub (.cons _ (.cons _ (.cons _ (.cons _ (.cons_cons _ (.cons_cons _ .slnil))))))) hs⟩
  · exact ⟨Tryz.call148, fun w hH => c_byPart1 126 pDot s x6 g w Tryz.call126 (fun s w _ => c_rule3 s w) hg (hH.sub (.cons _ (.cons _ (.cons _ (.cons_cons _ (.cons _ (.cons_cons _ .slnil))))))) hs⟩
  · exact ⟨Tryz.call151, fun w hH => c_has1 s ⟨#[46, 46]⟩ x8 g w hg (hH.sub (.cons _ (.cons _ (.cons_cons _ (.cons _ (.cons _ (.cons_cons _ .slnil))))))) hs⟩
  · exact ⟨Tryz.call148, fun w hH => c_byPart1 129 pLock s x10 g w Tryz.call129 (fun s w hs => c_rule4 s w hs) hg (hH.sub (.cons _ (.cons_cons _ (.cons _ (.cons _ (.cons _ (.cons_cons _ .slnil))))))) hs⟩
  · exact ⟨Tryz.call131, fun w hH => c_rule5 s w hs⟩
  · exact ⟨Tryz.call151, fun w hH => c_has1 s ⟨#[64, 123]⟩ x13 g w hg (hH.sub (.cons_cons _ (.cons _ (.cons _ (.cons _ (.cons _ (.cons_cons _ .slnil))))))) hs⟩

end Go.Proofs.YtaakjgmehbbgfaaGreatDoor
