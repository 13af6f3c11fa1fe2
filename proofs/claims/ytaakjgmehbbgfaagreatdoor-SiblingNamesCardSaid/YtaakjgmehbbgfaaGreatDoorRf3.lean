import Derived.Test.YtaakjgmehbbgfaaGreatDoorRf2
import Derived.Test.YtaakjgmehbbgfaaGreatDoorMvB
namespace Go.Proofs.YtaakjgmehbbgfaaGreatDoor
open Go Go.Mv
set_option maxRecDepth 4000
abbrev RuleX := Int × Nat × List Value
def ruleV (x : RuleX) : Value := .agg #[.int .i64 x.1, .func (.func x.2.1) #[] x.2.2.toArray]
def rulesL (rs : List RuleX) : List Value := rs.flatMap fun x => [.int .i64 x.1, .func (.func x.2.1) #[] x.2.2.toArray]
theorem rulesL_len : ∀ (rs : List RuleX), (rulesL rs).length = rs.length * 2
  | [] => rfl
  | x :: r => by have := rulesL_len r; simp only [rulesL, List.flatMap_cons, List.length_append, List.length_cons, List.length_nil] at this ⊢; omega
theorem rulesL_at : ∀ (rs : List RuleX) (i : Nat) (h : i < rs.length), ((rulesL rs).drop (i * 2)).take 2 = [.int .i64 (rs[i]'h).1, .func (.func (rs[i]'h).2.1) #[] (rs[i]'h).2.2.toArray]
  | [], i, h => by simp at h
  | x :: r, 0, h => by simp [rulesL]
  | x :: r, i + 1, h => by
    have := rulesL_at r i (by simpa using h)
    rw [show (i + 1) * 2 = i * 2 + 2 by omega]
    simpa [rulesL] using this
theorem rules_le {rs : List RuleX} {i : Nat} (h : i < rs.length) : 0 + (i : Int).toNat * 2 + 2 ≤ (rulesL rs).toArray.size := by
  have := rulesL_len rs
  simp; omega
theorem rules_at {rs : List RuleX} {i : Nat} (h : i < rs.length) : Value.agg ((rulesL rs).toArray.extract (0 + (i : Int).toNat * 2) (0 + (i : Int).toNat * 2 + 2)) = ruleV (rs[i]'h) := by
  unfold ruleV
  congr 1
  apply Array.toList_inj.1
  have := rulesL_at rs i h
  simp at this ⊢
  exact this
theorem rule_all (z : Array Value) (hz : z.size = 2) (x : RuleX) : Value.agg ((putL z 0 (ruleV x).cells.toList).extract 0 (0 + 2)) = ruleV x := by
  obtain ⟨l⟩ := z
  match l, hz with
  | [a, b], _ => rfl
theorem take_snoc {α : Type} {l : List α} {i : Nat} (h : i < l.length) : l.take i ++ [l[i]'h] = l.take (i + 1) := by simp
theorem take_pre {α : Type} (l : List α) (i : Nat) : l.take i <+: l := List.take_prefix i l

theorem build_rule (n : Int) (f : Nat) (cs : List Value) (w : World) : (Instr.build 145 #[(0, .int .i64 n), (1, .func (.func f) #[] cs.toArray)]).run Tryz.prog w = .ok (ruleV (n, f, cs)) w := by
  simp [Instr.build, Tryz.zeroValue145, Tryz.runUnderlying145, Tryz.sizeOf3, Tryz.sizeOf143, Value.cells, Instr.fill, ruleV]

theorem c_byPart (fv : Value) (w : World) (hfv : fv.cells = #[fv]) : Calls Tryz.prog 124 #[fv] w (Ret w [] fun v H1 => ∃ b, v = .func (.func 148) #[] #[.pointer (some ⟨b, 0, none⟩)] ∧ H1 = [(b, .cells #[fv] 143 (0, 0))]) := by
  refine fn_enter (args := [_]) Tryz.func124 rfl Tryz.ntmps124 rfl (Hp.nil w) ?_
  refine pn_seq ?_
  refine pn_plain [] rfl ?_
  refine TE_box rfl rfl trivial rfl fun b1 hb1 => ?_
  refine TE_q rfl rfl (RD.assign rfl) rfl ?_
  refine TE_nil0 ?_
  refine pn_seq ?_
  refine pn_plain [] rfl ?_
  refine TE_q rfl rfl (RD.makeFunc rfl rfl) rfl ?_
  refine TE_q rfl rfl (RD.assign rfl) rfl ?_
  refine TE_nil0 ?_
  refine pn_ret ?_
  exact pn_done (H1 := [(b1, .cells #[fv] 143 (0, 0))]) rfl rfl ⟨b1, rfl, rfl⟩ (by rw [hfv]; exact List.Sublist.refl _) (by simp; exact hb1)

theorem c_has (s : ByteArray) (w : World) : Calls Tryz.prog 128 #[.string s] w (Ret w [] fun v H1 => ∃ b, v = .func (.func 151) #[] #[.pointer (some ⟨b, 0, none⟩)] ∧ H1 = [(b, .cells #[.string s] 9 (0, 0))]) := by
  refine fn_enter (args := [_]) Tryz.func128 rfl Tryz.ntmps128 rfl (Hp.nil w) ?_
  refine pn_seq ?_
  refine pn_plain [] rfl ?_
  refine TE_box rfl rfl trivial rfl fun b1 hb1 => ?_
  refine TE_q rfl rfl (RD.assign rfl) rfl ?_
  refine TE_nil0 ?_
  refine pn_seq ?_
  refine pn_plain [] rfl ?_
  refine TE_q rfl rfl (RD.makeFunc rfl rfl) rfl ?_
  refine TE_q rfl rfl (RD.assign rfl) rfl ?_
  refine TE_nil0 ?_
  refine pn_ret ?_
  exact pn_done rfl rfl ⟨b1, rfl, rfl⟩ (List.Sublist.refl _) (by simp; exact hb1)

theorem it_rules (rs : List RuleX) (bc bs : Nat) (hn : rs.length < 2147483648) : Iter Tryz.prog 132 [.pointer (some ⟨bc, 0, none⟩)] (fun x => [ruleV x]) [(bc, .cells #[.slice (some ⟨bs, 0, none⟩) rs.length rs.length] 167 (0, 0)), (bs, .cells (rulesL rs).toArray 145 (0, 0))] rs (fun _ HI' => HI' = [(bc, .cells #[.slice (some ⟨bs, 0, none⟩) rs.length rs.length] 167 (0, 0)), (bs, .cells (rulesL rs).toArray 145 (0, 0))]) := by
  intro σ l HJ G S w s0 h0 hHp hy
  refine fn_enter (args := [_, _]) Tryz.func132 rfl Tryz.ntmps132 rfl hHp ?_
  refine pn_seq ?_
  refine pn_plain [1] rfl ?_
  refine TE_l rfl rfl trivial rfl (RD.load (i := 0) Tryz.isAgg167 rfl rfl rfl) rfl ?_
  refine TE_q rfl rfl (RD.len_slice Tryz.runUnderlying167 rfl) rfl ?_
  refine TE_q rfl rfl (RD.move rfl) rfl ?_
  refine TE_nil0 ?_
  refine pn_block ?_
  refine pn_loop (σ := Nat × σ) (fun st => [(0, .func (.yield l) #[] #[]), (5, .slice (some ⟨bs, 0, none⟩) rs.length rs.length), (6, .int .i64 (rs.length : Nat)), (7, .int .i64 (st.1 : Int))]) (fun st => (bc, .cells #[.slice (some ⟨bs, 0, none⟩) rs.length rs.length] 167 (0, 0)) :: (bs, .cells (rulesL rs).toArray 145 (0, 0)) :: HJ st.2) (fun st => st.1 ≤ rs.length ∧ G (rs.take st.1) st.2 ∧ (∀ e ∈ HJ st.2, w.heap.size ≤ e.1 ∨ e.1 ∈ keys ([(bc, .cells #[.slice (some ⟨bs, 0, none⟩) rs.length rs.length] 167 (0, 0)), (bs, .cells (rulesL rs).toArray 145 (0, 0))] ++ HJ s0))) (fun st => rs.length - st.1) (0, s0) ⟨Nat.zero_le _, h0, fun e he => .inr (mem_keys.2 ⟨e, by simp [he], rfl⟩)⟩ ⟨rfl, rfl, rfl, rfl, trivial⟩ (List.Sublist.refl _) ?_
  rintro ⟨i, s⟩ ⟨hi, hG, hX⟩; dsimp only at hi hG hX ⊢
  refine pn_seq ?_
  refine pn_plain [] rfl ?_
  refine TE_q rfl rfl (RD.lss rfl rfl) rfl ?_
  refine TE_nil0 ?_
  refine pn_seq ?_
  first | refine pn_condD rfl (fun hc0 => ?_) (fun hc0 => ?_) | refine pn_condN rfl (fun hc0 => ?_) (fun hc0 => ?_) | refine pn_cond rfl (fun hc0 => ?_) (fun hc0 => ?_)
  · refine pn_skip ?_
    refine pn_seq ?_
    refine pn_block ?_
    refine pn_seq ?_
    refine pn_plain [] rfl ?_
    refine TE_q rfl rfl (RD.indexAddrS Tryz.runUnderlying167 Tryz.sizeOf145 rfl rfl (by omega) (by omega)) rfl ?_
    have hlt : i < rs.length := by omega
    refine TE_l rfl rfl trivial rfl (RD.loadA (i := 1) Tryz.isAgg145 Tryz.sizeOf145 rfl rfl (rules_le (by omega)) (rules_at (by omega))) rfl ?_
    refine TE_alloc rfl Tryz.zeroValue145 trivial rfl fun b4 hb4 => ?_
    refine TE_put (i := 0) rfl Tryz.sizeOf145 trivial rfl rfl rfl rfl rfl rfl (.inl (by assumption)) ?_
    refine TE_nil0 ?_
    refine pn_seq ?_
    refine pn_plain [] rfl ?_
    refine TE_q rfl rfl (RD.move rfl) rfl ?_
    refine TE_l rfl rfl trivial rfl (RD.loadA (i := 0) Tryz.isAgg145 Tryz.sizeOf145 rfl rfl (Nat.le_of_ble_eq_true rfl) (rule_all _ rfl _)) rfl ?_
    refine TE_yield (A := [_, _, _]) (R := HJ s) 3 rfl rfl trivial rfl rfl rfl rfl rfl hX (fun W hW => hy (rs.take i) (rs[i]'hlt) s W hG (by rw [take_snoc hlt]; exact take_pre _ _) hW.fr (Hp.right (A := [_, _, _]) hW.hp.left)) ?_
    rintro v13 H2 ⟨s', rfl, ⟨rfl, hG'⟩ | ⟨rfl, hS'⟩⟩ hX'
    all_goals refine TE_q rfl rfl (RD.not rfl) rfl ?_
    all_goals refine TE_nil0 ?_
    all_goals first
      | (
          refine pn_condT rfl ?_
          refine pn_ret ?_
          exact pn_done rfl rfl ⟨s', _, rfl, .inr ⟨_, by rw [take_snoc hlt]; exact take_pre _ _, hS', rfl⟩⟩ (List.sublist_cons_self _ _) (fun e he => by rcases List.mem_append.1 he with h | h; exact .inl (mem_keys.2 ⟨e, List.mem_append_left _ h, rfl⟩); exact (hX' e h).symm))
      | (
          refine pn_condF rfl ?_
          refine pn_skip ?_
          refine pn_plain [] rfl ?_
          refine TE_q rfl rfl (RD.addI rfl rfl (by omega) (by omega)) rfl ?_
          refine TE_q rfl rfl (RD.move rfl) rfl ?_
          refine TE_nil0 ?_
          (exact pn_again (i + 1, s') ⟨by show i + 1 ≤ rs.length; omega, by show G (rs.take (i + 1)) s'; rw [← take_snoc hlt]; exact hG', hX'⟩ (by show rs.length - (i + 1) < rs.length - i; omega) ⟨rfl, rfl, rfl, rfl, trivial⟩ (List.sublist_cons_self _ _)))
      | (
          first | refine pn_condD rfl (fun hc1 => ?_) (fun hc1 => ?_) | refine pn_condN rfl (fun hc1 => ?_) (fun hc1 => ?_) | refine pn_cond rfl (fun hc1 => ?_) (fun hc1 => ?_)
          · refine pn_ret ?_
            exact pn_done rfl rfl ⟨s', _, rfl, .inr ⟨_, by rw [take_snoc hlt]; exact take_pre _ _, hS', rfl⟩⟩ (List.sublist_cons_self _ _) (fun e he => by rcases List.mem_append.1 he with h | h; exact .inl (mem_keys.2 ⟨e, List.mem_append_left _ h, rfl⟩); exact (hX' e h).symm)
          · refine pn_skip ?_
            refine pn_plain [] rfl ?_
            refine TE_q rfl rfl (RD.addI rfl rfl (by omega) (by omega)) rfl ?_
            refine TE_q rfl rfl (RD.move rfl) rfl ?_
            refine TE_nil0 ?_
            (exact pn_again (i + 1, s') ⟨by show i + 1 ≤ rs.length; omega, by show G (rs.take (i + 1)) s'; rw [← take_snoc hlt]; exact hG', hX'⟩ (by show rs.length - (i + 1) < rs.length - i; omega) ⟨rfl, rfl, rfl, rfl, trivial⟩ (List.sublist_cons_self _ _)))
  · refine pn_exit ?_
    obtain rfl : i = rs.length := (by omega); exact pn_done rfl rfl ⟨s, _, rfl, .inl ⟨by rw [List.take_length] at hG; exact hG, rfl⟩⟩ (List.Sublist.refl _) (fun e he => by rcases List.mem_append.1 he with h | h; exact .inl (mem_keys.2 ⟨e, List.mem_append_left _ h, rfl⟩); exact (hX e h).symm)

end Go.Proofs.YtaakjgmehbbgfaaGreatDoor
