import Derived.Test.YtaakjgmehbbgfaaGreatDoorRef
namespace Go.Proofs.YtaakjgmehbbgfaaGreatDoor
open Go Go.Mv
set_option maxRecDepth 4000
theorem c_split (s : ByteArray) (g : Obj) (hg : GOk g) (H : Mem) (w : World) (hH : Hp H w) (i : Nat) (hi : H[i]? = some (0, g)) (hs : s.size < 4294967281) : Calls Tryz.prog 149 #[.string s, .string ⟨#[47]⟩] w (Ret w [] fun v H1 => ∃ b, v = .slice (some ⟨b, 0, none⟩) (partsOf s).length (partsOf s).length ∧ H1 = [(b, .cells ((partsOf s).map Value.string).toArray 9 (0, 0))]) := by
  obtain ⟨m, hm⟩ := hg.cell hH i hi
  have h := Tryz.strings_Split s ⟨#[47]⟩ m w hs hm (by decide)
  rw [← partsOf_length] at h
  exact Ret.new (vf := fun b => .slice (some ⟨b, 0, none⟩) (partsOf s).length (partsOf s).length) h
def pLong (s : ByteArray) : Bool := decide (s = ⟨#[]⟩) || decide (100 < (s.size : Int))
def pEmpty (s : ByteArray) : Bool := decide (s = ⟨#[]⟩)
def pDot (s : ByteArray) : Bool := Lib.hasPrefix s.data.toList [46]
def pLock (s : ByteArray) : Bool := Lib.hasSuffix s.data.toList [46, 108, 111, 99, 107]
def pEnd (s : ByteArray) : Bool := Lib.hasSuffix s.data.toList [46]
def pHas (u : ByteArray) (s : ByteArray) : Bool := Lib.contains s.data.toList u.data.toList
def pPart (f : ByteArray → Bool) (s : ByteArray) : Bool := (partsOf s).any f
theorem pPart_T {f : ByteArray → Bool} {s : ByteArray} {i : Nat} (h : i < (partsOf s).length) (hb : f ((partsOf s)[i]'h) = true) : pPart f s = true := by
  simp only [pPart, List.any_eq_true]; exact ⟨_, List.getElem_mem h, hb⟩
theorem pPart_F {f : ByteArray → Bool} {s : ByteArray} (h : ∀ i (hi : i < (partsOf s).length), f ((partsOf s)[i]'hi) = false) : pPart f s = false := by
  simp only [pPart, List.any_eq_false]
  intro x hx
  obtain ⟨i, hi, rfl⟩ := List.mem_iff_getElem.1 hx
  simp [h i hi]

theorem c_rule1 (s : ByteArray) (w : World) : Calls Tryz.prog 122 #[.string s] w (Ret w [] fun v H1 => v = .bool (pLong s) ∧ H1 = []) := by
  refine fn_enter (args := [_]) Tryz.func122 rfl Tryz.ntmps122 rfl (Hp.nil w) ?_
  refine pn_seq ?_
  refine pn_plain [] rfl ?_
  refine TE_q rfl rfl (RD.assign rfl) rfl ?_
  refine TE_nil0 ?_
  refine pn_seq ?_
  refine pn_plain [4] rfl ?_
  refine TE_q rfl rfl (RD.move rfl) rfl ?_
  refine TE_q rfl rfl (RD.eql_string rfl rfl) rfl ?_
  refine TE_q rfl rfl (RD.move rfl) rfl ?_
  (first | refine TE_isT ?_ | refine TE_isF ?_ | refine TE_dec (fun h102 => ?_) (fun h102 => ?_) | refine TE_ndec (fun h102 => ?_) (fun h102 => ?_) | refine TE_bool (fun h102 => ?_) (fun h102 => ?_))
  all_goals (first | (refine TE_s rfl rfl rfl rfl rfl ?_) | (refine TE_gq rfl rfl rfl rfl (RD.move rfl) rfl ?_))
  all_goals (first | (refine TE_s rfl rfl rfl rfl rfl ?_) | (refine TE_gq rfl rfl rfl rfl (RD.len_string Tryz.runUnderlying9 rfl) rfl ?_))
  all_goals (first | (refine TE_s rfl rfl rfl rfl rfl ?_) | (refine TE_gq rfl rfl rfl rfl (RD.gtr rfl rfl) rfl ?_))
  all_goals (first | (refine TE_q rfl rfl (RD.pickT rfl rfl) rfl ?_) | (refine TE_q rfl rfl (RD.pickF rfl rfl) rfl ?_))
  all_goals refine TE_q rfl rfl (RD.assign rfl) rfl ?_
  all_goals refine TE_nil0 ?_
  all_goals refine pn_ret ?_
  all_goals (first | exact pn_done rfl rfl ⟨by simp only [pLong]; rw [show decide (s = (⟨#[]⟩ : ByteArray)) = true from decide_eq_true ‹_›]; rfl, rfl⟩ (List.nil_sublist _) (by simp) | exact pn_done rfl rfl ⟨by simp only [pLong]; rw [show decide (s = (⟨#[]⟩ : ByteArray)) = false from decide_eq_false ‹_›]; rfl, rfl⟩ (List.nil_sublist _) (by simp))

theorem c_rule2 (s : ByteArray) (w : World) : Calls Tryz.prog 125 #[.string s] w (Ret w [] fun v H1 => v = .bool (pEmpty s) ∧ H1 = []) := by
  refine fn_enter (args := [_]) Tryz.func125 rfl Tryz.ntmps125 rfl (Hp.nil w) ?_
  refine pn_seq ?_
  refine pn_plain [] rfl ?_
  refine TE_q rfl rfl (RD.assign rfl) rfl ?_
  refine TE_nil0 ?_
  refine pn_seq ?_
  refine pn_plain [] rfl ?_
  refine TE_q rfl rfl (RD.move rfl) rfl ?_
  refine TE_q rfl rfl (RD.eql_string rfl rfl) rfl ?_
  refine TE_q rfl rfl (RD.assign rfl) rfl ?_
  refine TE_nil0 ?_
  refine pn_ret ?_
  exact pn_done rfl rfl ⟨rfl, rfl⟩ (List.nil_sublist _) (by simp)

theorem c_rule3 (s : ByteArray) (w : World) : Calls Tryz.prog 126 #[.string s] w (Ret w [] fun v H1 => v = .bool (pDot s) ∧ H1 = []) := by
  refine fn_enter (args := [_]) Tryz.func126 rfl Tryz.ntmps126 rfl (Hp.nil w) ?_
  refine pn_seq ?_
  refine pn_plain [] rfl ?_
  refine TE_q rfl rfl (RD.assign rfl) rfl ?_
  refine TE_nil0 ?_
  refine pn_seq ?_
  refine pn_plain [] rfl ?_
  refine TE_q rfl rfl (RD.move rfl) rfl ?_
  refine TE_call (post := fun x H1 => x = .bool (pDot s) ∧ H1 = []) rfl rfl trivial Tryz.call127 rfl rfl rfl (fun w hs => Ret.same (Tryz.strings_HasPrefix s ⟨#[46]⟩ w)) ?_
  rintro v4 H1 ⟨rfl, rfl⟩ -
  refine TE_q rfl rfl (RD.assign rfl) rfl ?_
  refine TE_nil0 ?_
  refine pn_ret ?_
  exact pn_done rfl rfl ⟨rfl, rfl⟩ (List.nil_sublist _) (by simp)

theorem c_rule4 (s : ByteArray) (w : World) (hs : s.size < 4294967281) : Calls Tryz.prog 129 #[.string s] w (Ret w [] fun v H1 => v = .bool (pLock s) ∧ H1 = []) := by
  refine fn_enter (args := [_]) Tryz.func129 rfl Tryz.ntmps129 rfl (Hp.nil w) ?_
  refine pn_seq ?_
  refine pn_plain [] rfl ?_
  refine TE_q rfl rfl (RD.assign rfl) rfl ?_
  refine TE_nil0 ?_
  refine pn_seq ?_
  refine pn_plain [] rfl ?_
  refine TE_q rfl rfl (RD.move rfl) rfl ?_
  refine TE_call (post := fun x H1 => x = .bool (pLock s) ∧ H1 = []) rfl rfl trivial Tryz.call130 rfl rfl rfl (fun w hs => Ret.same (Tryz.strings_HasSuffix s ⟨#[46, 108, 111, 99, 107]⟩ w (by omega))) ?_
  rintro v4 H1 ⟨rfl, rfl⟩ -
  refine TE_q rfl rfl (RD.assign rfl) rfl ?_
  refine TE_nil0 ?_
  refine pn_ret ?_
  exact pn_done rfl rfl ⟨rfl, rfl⟩ (List.nil_sublist _) (by simp)

theorem c_rule5 (s : ByteArray) (w : World) (hs : s.size < 4294967281) : Calls Tryz.prog 131 #[.string s] w (Ret w [] fun v H1 => v = .bool (pEnd s) ∧ H1 = []) := by
  refine fn_enter (args := [_]) Tryz.func131 rfl Tryz.ntmps131 rfl (Hp.nil w) ?_
  refine pn_seq ?_
  refine pn_plain [] rfl ?_
  refine TE_q rfl rfl (RD.assign rfl) rfl ?_
  refine TE_nil0 ?_
  refine pn_seq ?_
  refine pn_plain [] rfl ?_
  refine TE_q rfl rfl (RD.move rfl) rfl ?_
  refine TE_call (post := fun x H1 => x = .bool (pEnd s) ∧ H1 = []) rfl rfl trivial Tryz.call130 rfl rfl rfl (fun w hs => Ret.same (Tryz.strings_HasSuffix s ⟨#[46]⟩ w (by omega))) ?_
  rintro v4 H1 ⟨rfl, rfl⟩ -
  refine TE_q rfl rfl (RD.assign rfl) rfl ?_
  refine TE_nil0 ?_
  refine pn_ret ?_
  exact pn_done rfl rfl ⟨rfl, rfl⟩ (List.nil_sublist _) (by simp)

theorem c_has1 (s u : ByteArray) (b : Nat) (g : Obj) (w : World) (hg : GOk g) (hH : Hp [(b, .cells #[.string u] 9 (0, 0)), (0, g)] w) (hs : s.size < 4294967281) : Calls Tryz.prog 151 #[.string s, .pointer (some ⟨b, 0, none⟩)] w (Ret w [] fun v H1 => v = .bool (pHas u s) ∧ H1 = []) := by
  refine fn_enter (args := [_, _]) Tryz.func151 rfl Tryz.ntmps151 rfl hH ?_
  refine pn_seq ?_
  refine pn_plain [] rfl ?_
  refine TE_q rfl rfl (RD.assign rfl) rfl ?_
  refine TE_nil0 ?_
  refine pn_seq ?_
  refine pn_plain [] rfl ?_
  refine TE_q rfl rfl (RD.move rfl) rfl ?_
  refine TE_l rfl rfl trivial rfl (RD.load (i := 0) Tryz.isAgg9 rfl rfl rfl) rfl ?_
  refine TE_call (post := fun x H1 => x = .bool (pHas u s) ∧ H1 = []) rfl rfl trivial Tryz.call147 rfl rfl rfl (fun w hs' => by obtain ⟨m, hm⟩ := hg.cell hs'.hp 1 rfl; exact Ret.same (Tryz.strings_Contains s u m w hs hm)) ?_
  rintro v6 H2 ⟨rfl, rfl⟩ -
  refine TE_q rfl rfl (RD.assign rfl) rfl ?_
  refine TE_nil0 ?_
  refine pn_ret ?_
  exact pn_done rfl rfl ⟨rfl, rfl⟩ (List.nil_sublist _) (by simp)

theorem c_byPart1 (fid : Nat) (f : ByteArray → Bool) (s : ByteArray) (b : Nat) (g : Obj) (w : World) (hen : ∀ args w, (callFunc fid args).run Tryz.prog w = .ok (.enter fid args) w) (hf : ∀ (s : ByteArray) (w : World), s.size < 4294967281 → Calls Tryz.prog fid #[.string s] w (Ret w [] fun v H1 => v = .bool (f s) ∧ H1 = [])) (hg : GOk g) (hH : Hp [(b, .cells #[.func (.func fid) #[] #[]] 143 (0, 0)), (0, g)] w) (hs : s.size < 4294967281) : Calls Tryz.prog 148 #[.string s, .pointer (some ⟨b, 0, none⟩)] w (Ret w [] fun v H1 => v = .bool (pPart f s) ∧ H1 = []) := by
  refine fn_enter (args := [_, _]) Tryz.func148 rfl Tryz.ntmps148 rfl hH ?_
  refine pn_seq ?_
  refine pn_plain [] rfl ?_
  refine TE_q rfl rfl (RD.assign rfl) rfl ?_
  refine TE_nil0 ?_
  refine pn_seq ?_
  refine pn_seq ?_
  refine pn_plain [2] rfl ?_
  refine TE_q rfl rfl (RD.move rfl) rfl ?_
  refine TE_call rfl rfl trivial Tryz.call149 rfl rfl rfl (fun w hs' => c_split s g hg _ w hs'.hp 1 rfl hs) ?_
  rintro v7 H1 ⟨bs, rfl, rfl⟩ hbs
  refine TE_q rfl rfl (RD.len_slice Tryz.runUnderlying162 rfl) rfl ?_
  refine TE_q rfl rfl (RD.move rfl) rfl ?_
  refine TE_nil0 ?_
  refine pn_block ?_
  refine pn_loop (σ := Nat) (fun i => [(9, .int .i64 (i : Int)), (8, .int .i64 ((partsOf s).length : Nat)), (7, .slice (some ⟨bs, 0, none⟩) (partsOf s).length (partsOf s).length), (1, .pointer (some ⟨b, 0, none⟩))]) (fun _ => [(bs, .cells ((partsOf s).map Value.string).toArray 9 (0, 0)), (b, .cells #[.func (.func fid) #[] #[]] 143 (0, 0)), (0, g)]) (fun i => i ≤ (partsOf s).length ∧ ∀ j (hj : j < (partsOf s).length), j < i → f ((partsOf s)[j]'hj) = false) (fun i => (partsOf s).length - i) 0 ⟨Nat.zero_le _, fun j hj h => absurd h (by omega)⟩ ⟨rfl, rfl, rfl, rfl, trivial⟩ (List.Sublist.refl _) ?_
  rintro i ⟨hi, hok⟩; have hpl : (partsOf s).length < 9223372036854775807 := by have := partsOf_length s; have := Lib.countB_le ⟨#[47]⟩ (by decide) _ s (Nat.le_refl _); omega
  refine pn_seq ?_
  refine pn_plain [] rfl ?_
  refine TE_q rfl rfl (RD.lss rfl rfl) rfl ?_
  refine TE_nil0 ?_
  refine pn_seq ?_
  first | refine pn_condD rfl (fun hc0 => ?_) (fun hc0 => ?_) | refine pn_condN rfl (fun hc0 => ?_) (fun hc0 => ?_) | refine pn_cond rfl (fun hc0 => ?_) (fun hc0 => ?_)
  · refine pn_skip ?_
    refine pn_seq ?_
    refine pn_block ?_
    refine pn_seq ?_
    refine pn_plain [] rfl ?_
    refine TE_q rfl rfl (RD.indexAddrS Tryz.runUnderlying162 Tryz.sizeOf9 rfl rfl (by omega) (by omega)) rfl ?_
    have hlt : i < (partsOf s).length := by omega
    refine TE_l rfl rfl trivial rfl (RD.load (i := 0) Tryz.isAgg9 rfl rfl (parts_get hlt)) rfl ?_
    refine TE_q rfl rfl (RD.assign rfl) rfl ?_
    refine TE_nil0 ?_
    refine pn_seq ?_
    refine pn_plain [] rfl ?_
    refine TE_l rfl rfl trivial rfl (RD.load (i := 1) Tryz.isAgg143 rfl rfl rfl) rfl ?_
    refine TE_q rfl rfl (RD.move rfl) rfl ?_
    refine TE_call (post := fun x H1 => x = .bool (f ((partsOf s)[i]'hlt)) ∧ H1 = []) rfl rfl trivial hen rfl rfl rfl (fun w hs' => hf _ w (Nat.lt_of_le_of_lt (partsOf_size (List.getElem_mem hlt)) hs)) ?_
    rintro v15 H2 ⟨rfl, rfl⟩ -
    refine TE_nil0 ?_
    first | refine pn_condD rfl (fun hc1 => ?_) (fun hc1 => ?_) | refine pn_condN rfl (fun hc1 => ?_) (fun hc1 => ?_) | refine pn_cond rfl (fun hc1 => ?_) (fun hc1 => ?_)
    · refine pn_seq ?_
      refine pn_plain [] rfl ?_
      refine TE_q rfl rfl (RD.assign rfl) rfl ?_
      refine TE_nil0 ?_
      refine pn_ret ?_
      exact pn_done rfl rfl ⟨by rw [pPart_T hlt hc1]; rfl, rfl⟩ (List.nil_sublist _) (by simp)
    · refine pn_skip ?_
      refine pn_plain [] rfl ?_
      refine TE_q rfl rfl (RD.addI rfl rfl (by omega) (by omega)) rfl ?_
      refine TE_q rfl rfl (RD.move rfl) rfl ?_
      refine TE_nil0 ?_
      (exact pn_again (i + 1) ⟨by omega, fun j hj h => by rcases Nat.lt_succ_iff_lt_or_eq.1 h with h | rfl; exact hok j hj h; simpa using hc1⟩ (by show (partsOf s).length - (i + 1) < (partsOf s).length - i; omega) ⟨rfl, rfl, rfl, rfl, trivial⟩ (List.Sublist.refl _))
  · refine pn_exit ?_
    refine pn_seq ?_
    refine pn_plain [] rfl ?_
    refine TE_q rfl rfl (RD.assign rfl) rfl ?_
    refine TE_nil0 ?_
    refine pn_ret ?_
    exact pn_done rfl rfl ⟨by rw [pPart_F (fun j hj => hok j hj (by omega))]; rfl, rfl⟩ (List.nil_sublist _) (by simp)

end Go.Proofs.YtaakjgmehbbgfaaGreatDoor
