import Derived.Test.YtaakjgmehbbgfaaGreatDoorProg
import Derived.Test.YtaakjgmehbbgfaaGreatDoorShl
import Derived.Test.YtaakjgmehbbgfaaGreatDoorMvB
namespace Go.Proofs.YtaakjgmehbbgfaaGreatDoor
open Go Go.Mv
set_option maxRecDepth 4000
def byteBad (b : UInt8) : Bool := decide (b.toNat < 33) || decide (126 < b.toNat) || decide (0 ≤ Lib.indexByte [126, 94, 58, 63, 42, 91, 92] b)
def byByteB (s : ByteArray) : Bool := s.data.toList.any byteBad
theorem byByte_T {s : ByteArray} {i : Nat} (h : i < s.size) (hb : byteBad (s[i]'h) = true) : byByteB s = true := by
  simp only [byByteB, List.any_eq_true]
  exact ⟨s[i]'h, by simp [ByteArray.getElem_eq_getElem_data], hb⟩
theorem byByte_F {s : ByteArray} (h : ∀ i (hi : i < s.size), byteBad (s[i]'hi) = false) : byByteB s = false := by
  simp only [byByteB, List.any_eq_false]
  intro x hx
  obtain ⟨i, hi, rfl⟩ := List.mem_iff_getElem.1 hx
  have := h i (by simpa using hi)
  simpa [ByteArray.getElem_eq_getElem_data] using this

set_option maxHeartbeats 1000000 in
theorem c_byByte (s : ByteArray) (w : World) : Calls Tryz.prog 123 #[.string s] w (Ret w [] fun v H1 => v = .bool (byByteB s) ∧ H1 = []) := by
  refine fn_enter (args := [_]) Tryz.func123 rfl Tryz.ntmps123 rfl (Hp.nil w) ?_
  refine pn_seq ?_
  refine pn_plain [] rfl ?_
  refine TE_q rfl rfl (RD.assign rfl) rfl ?_
  refine TE_nil0 ?_
  refine pn_seq ?_
  refine pn_seq ?_
  refine pn_plain [] rfl ?_
  refine TE_q rfl rfl (RD.move rfl) rfl ?_
  refine TE_rangeS rfl Tryz.runUnderlying9 rfl trivial rfl fun b6 hb6 => ?_
  refine TE_nil0 ?_
  refine pn_block ?_
  refine pn_loop (σ := Nat) (fun _ => [(6, .pointer (some ⟨b6, 0, none⟩))]) (fun pos => [(b6, .stringIter s pos)]) (fun pos => pos ≤ s.size ∧ ∀ i (hi : i < s.size), i < pos → byteBad (s[i]'hi) = false) (fun pos => s.size - pos) 0 ⟨Nat.zero_le _, fun i hi h => absurd h (by omega)⟩ ⟨rfl, trivial⟩ (List.Sublist.refl _) ?_
  rintro pos ⟨hpos, hok⟩; by_cases hlt : pos < s.size; by_cases ha : (s[pos]'hlt).toNat < 128
  · have hdec := decode_ascii s pos hlt ha
    refine pn_seq ?_
    refine pn_plain [] rfl ?_
    (refine TE_nextS (i := 0) rfl rfl trivial rfl rfl hlt (.inl (by assumption)) ?_; rw [hdec])
    refine TE_q rfl rfl (RD.extract rfl rfl) rfl ?_
    refine TE_nil0 ?_
    refine pn_seq ?_
    refine pn_condT rfl ?_
    refine pn_skip ?_
    refine pn_block ?_
    refine pn_seq ?_
    refine pn_plain [] rfl ?_
    refine TE_q rfl rfl (RD.extract rfl rfl) rfl ?_
    refine TE_q rfl rfl (RD.assign rfl) rfl ?_
    refine TE_nil0 ?_
    refine pn_seq ?_
    refine pn_plain [] rfl ?_
    refine TE_q rfl rfl (RD.move rfl) rfl ?_
    refine TE_q rfl rfl (RD.lss rfl rfl) rfl ?_
    refine TE_q rfl rfl (RD.move rfl) rfl ?_
    (first | refine TE_isT ?_ | refine TE_isF ?_ | refine TE_dec (fun h402 => ?_) (fun h402 => ?_) | refine TE_ndec (fun h402 => ?_) (fun h402 => ?_) | refine TE_bool (fun h402 => ?_) (fun h402 => ?_))
    all_goals (first | (refine TE_s rfl rfl rfl rfl rfl ?_) | (refine TE_gq rfl rfl rfl rfl (RD.move rfl) rfl ?_))
    all_goals (first | (refine TE_s rfl rfl rfl rfl rfl ?_) | (refine TE_gq rfl rfl rfl rfl (RD.gtr rfl rfl) rfl ?_))
    all_goals (first | (refine TE_q rfl rfl (RD.pickT rfl rfl) rfl ?_) | (refine TE_q rfl rfl (RD.pickF rfl rfl) rfl ?_))
    all_goals refine TE_q rfl rfl (RD.move rfl) rfl ?_
    all_goals (first | refine TE_isT ?_ | refine TE_isF ?_ | refine TE_dec (fun h406 => ?_) (fun h406 => ?_) | refine TE_ndec (fun h406 => ?_) (fun h406 => ?_) | refine TE_bool (fun h406 => ?_) (fun h406 => ?_))
    all_goals (first | (refine TE_s rfl rfl rfl rfl rfl ?_) | (refine TE_gq rfl rfl rfl rfl (RD.move rfl) rfl ?_))
    all_goals (first | (refine TE_s rfl rfl rfl rfl rfl ?_) | (refine TE_l rfl rfl ⟨_, rfl, rfl⟩ rfl (RD.as (RD.str_of_int (n := (s[pos]'hlt).toNat) Tryz.runUnderlying21 Tryz.runUnderlying9 rfl (by omega)) (by rw [UInt8.ofNat_toNat])) rfl ?_))
    all_goals (first | (refine TE_s rfl rfl rfl rfl rfl ?_) | ((refine TE_call (post := fun x H1 => x = .bool (decide (0 ≤ Lib.indexByte [126, 94, 58, 63, 42, 91, 92] (s[pos]'hlt))) ∧ H1 = []) rfl rfl ⟨_, rfl, rfl⟩ Tryz.call147 rfl rfl rfl (fun w hs => Ret.same (Tryz.strings_Contains_one ⟨#[126, 94, 58, 63, 42, 91, 92]⟩ (s[pos]'hlt) w)) ?_; rintro v19 H9 ⟨rfl, rfl⟩ -)))
    all_goals (first | (refine TE_q rfl rfl (RD.pickT rfl rfl) rfl ?_) | (refine TE_q rfl rfl (RD.pickF rfl rfl) rfl ?_))
    all_goals refine TE_nil0 ?_
    all_goals first
      | (
          refine pn_condT rfl ?_
          refine pn_seq ?_
          refine pn_plain [] rfl ?_
          refine TE_q rfl rfl (RD.assign rfl) rfl ?_
          refine TE_nil0 ?_
          refine pn_ret ?_
          exact pn_done rfl rfl ⟨by rw [byByte_T hlt (by simp only [byteBad, Bool.or_eq_true, decide_eq_true_eq]; first | exact .inr hc1 | (left; omega))]; rfl, rfl⟩ (List.nil_sublist _) (by simp))
      | (
          refine pn_condF rfl ?_
          refine pn_skip ?_
          (exact pn_again (pos + 1) ⟨by omega, fun i hi h => by rcases Nat.lt_succ_iff_lt_or_eq.1 h with h | rfl; exact hok i hi h; simp only [byteBad, Bool.or_eq_false_iff, decide_eq_false_iff_not]; exact ⟨⟨by omega, by omega⟩, hc1⟩⟩ (by show s.size - (pos + 1) < s.size - pos; omega) ⟨rfl, trivial⟩ (List.Sublist.refl _)))
      | (
          first | refine pn_condD rfl (fun hc1 => ?_) (fun hc1 => ?_) | refine pn_condN rfl (fun hc1 => ?_) (fun hc1 => ?_) | refine pn_cond rfl (fun hc1 => ?_) (fun hc1 => ?_)
          · refine pn_seq ?_
            refine pn_plain [] rfl ?_
            refine TE_q rfl rfl (RD.assign rfl) rfl ?_
            refine TE_nil0 ?_
            refine pn_ret ?_
            exact pn_done rfl rfl ⟨by rw [byByte_T hlt (by simp only [byteBad, Bool.or_eq_true, decide_eq_true_eq]; first | exact .inr hc1 | (left; omega))]; rfl, rfl⟩ (List.nil_sublist _) (by simp)
          · refine pn_skip ?_
            (exact pn_again (pos + 1) ⟨by omega, fun i hi h => by rcases Nat.lt_succ_iff_lt_or_eq.1 h with h | rfl; exact hok i hi h; simp only [byteBad, Bool.or_eq_false_iff, decide_eq_false_iff_not]; exact ⟨⟨by omega, by omega⟩, hc1⟩⟩ (by show s.size - (pos + 1) < s.size - pos; omega) ⟨rfl, trivial⟩ (List.Sublist.refl _)))
  · have hbig := decode_big s pos hlt ha
    refine pn_seq ?_
    refine pn_plain [] rfl ?_
    (refine TE_nextS (i := 0) rfl rfl trivial rfl rfl hlt (.inl (by assumption)) ?_; generalize (Utf8.decode s pos).1 = c at hbig ⊢; generalize (Utf8.decode s pos).2 = wd)
    refine TE_q rfl rfl (RD.extract rfl rfl) rfl ?_
    refine TE_nil0 ?_
    refine pn_seq ?_
    refine pn_condT rfl ?_
    refine pn_skip ?_
    refine pn_block ?_
    refine pn_seq ?_
    refine pn_plain [] rfl ?_
    refine TE_q rfl rfl (RD.extract rfl rfl) rfl ?_
    refine TE_q rfl rfl (RD.assign rfl) rfl ?_
    refine TE_nil0 ?_
    refine pn_seq ?_
    refine pn_plain [] rfl ?_
    refine TE_q rfl rfl (RD.move rfl) rfl ?_
    refine TE_q rfl rfl (RD.lss rfl rfl) rfl ?_
    refine TE_q rfl rfl (RD.move rfl) rfl ?_
    (first | refine TE_isT ?_ | refine TE_isF ?_ | refine TE_dec (fun h402 => ?_) (fun h402 => ?_) | refine TE_ndec (fun h402 => ?_) (fun h402 => ?_) | refine TE_bool (fun h402 => ?_) (fun h402 => ?_))
    all_goals (first | (refine TE_s rfl rfl rfl rfl rfl ?_) | (refine TE_gq rfl rfl rfl rfl (RD.move rfl) rfl ?_))
    all_goals (first | (refine TE_s rfl rfl rfl rfl rfl ?_) | (refine TE_gq rfl rfl rfl rfl (RD.gtr rfl rfl) rfl ?_))
    all_goals (first | (refine TE_q rfl rfl (RD.pickT rfl rfl) rfl ?_) | (refine TE_q rfl rfl (RD.pickF rfl rfl) rfl ?_))
    all_goals refine TE_q rfl rfl (RD.move rfl) rfl ?_
    all_goals (first | refine TE_isT ?_ | refine TE_isF ?_ | refine TE_dec (fun h406 => ?_) (fun h406 => ?_) | refine TE_ndec (fun h406 => ?_) (fun h406 => ?_) | refine TE_bool (fun h406 => ?_) (fun h406 => ?_))
    all_goals (first | (refine TE_s rfl rfl rfl rfl rfl ?_) | (refine TE_gq rfl rfl rfl rfl (RD.move rfl) rfl ?_))
    all_goals (try (exfalso; omega))
    all_goals (first | (refine TE_s rfl rfl rfl rfl rfl ?_) | (refine TE_l rfl rfl ⟨_, rfl, rfl⟩ rfl (RD.as (RD.str_of_int (n := (s[pos]'hlt).toNat) Tryz.runUnderlying21 Tryz.runUnderlying9 rfl (by omega)) (by rw [UInt8.ofNat_toNat])) rfl ?_))
    all_goals (first | (refine TE_s rfl rfl rfl rfl rfl ?_) | ((refine TE_call (post := fun x H1 => x = .bool (decide (0 ≤ Lib.indexByte [126, 94, 58, 63, 42, 91, 92] (s[pos]'hlt))) ∧ H1 = []) rfl rfl ⟨_, rfl, rfl⟩ Tryz.call147 rfl rfl rfl (fun w hs => Ret.same (Tryz.strings_Contains_one ⟨#[126, 94, 58, 63, 42, 91, 92]⟩ (s[pos]'hlt) w)) ?_; rintro v19 H9 ⟨rfl, rfl⟩ -)))
    all_goals (first | (refine TE_q rfl rfl (RD.pickT rfl rfl) rfl ?_) | (refine TE_q rfl rfl (RD.pickF rfl rfl) rfl ?_))
    all_goals refine TE_nil0 ?_
    all_goals first
      | (
          refine pn_condT rfl ?_
          refine pn_seq ?_
          refine pn_plain [] rfl ?_
          refine TE_q rfl rfl (RD.assign rfl) rfl ?_
          refine TE_nil0 ?_
          refine pn_ret ?_
          exact pn_done rfl rfl ⟨by rw [byByte_T hlt (by simp only [byteBad, Bool.or_eq_true, decide_eq_true_eq]; left; omega)]; rfl, rfl⟩ (List.nil_sublist _) (by simp))
      | (
          refine pn_condF rfl ?_
          refine pn_skip ?_
          (exact pn_again (pos + 1) ⟨by omega, fun i hi h => by rcases Nat.lt_succ_iff_lt_or_eq.1 h with h | rfl; exact hok i hi h; simp only [byteBad, Bool.or_eq_false_iff, decide_eq_false_iff_not]; exact ⟨⟨by omega, by omega⟩, hc1⟩⟩ (by show s.size - (pos + 1) < s.size - pos; omega) ⟨rfl, trivial⟩ (List.Sublist.refl _)))
      | (
          first | refine pn_condD rfl (fun hc1 => ?_) (fun hc1 => ?_) | refine pn_condN rfl (fun hc1 => ?_) (fun hc1 => ?_) | refine pn_cond rfl (fun hc1 => ?_) (fun hc1 => ?_)
          · refine pn_seq ?_
            refine pn_plain [] rfl ?_
            refine TE_q rfl rfl (RD.assign rfl) rfl ?_
            refine TE_nil0 ?_
            refine pn_ret ?_
            exact pn_done rfl rfl ⟨by rw [byByte_T hlt (by simp only [byteBad, Bool.or_eq_true, decide_eq_true_eq]; left; omega)]; rfl, rfl⟩ (List.nil_sublist _) (by simp)
          · refine pn_skip ?_
            (exact pn_again (pos + 1) ⟨by omega, fun i hi h => by rcases Nat.lt_succ_iff_lt_or_eq.1 h with h | rfl; exact hok i hi h; simp only [byteBad, Bool.or_eq_false_iff, decide_eq_false_iff_not]; exact ⟨⟨by omega, by omega⟩, hc1⟩⟩ (by show s.size - (pos + 1) < s.size - pos; omega) ⟨rfl, trivial⟩ (List.Sublist.refl _)))
  · refine pn_seq ?_
    refine pn_plain [] rfl ?_
    refine TE_nextE (i := 0) rfl rfl trivial rfl rfl hlt ?_
    refine TE_q rfl rfl (RD.extract rfl rfl) rfl ?_
    refine TE_nil0 ?_
    refine pn_seq ?_
    refine pn_condF rfl ?_
    refine pn_exit ?_
    refine pn_seq ?_
    refine pn_plain [] rfl ?_
    refine TE_q rfl rfl (RD.assign rfl) rfl ?_
    refine TE_nil0 ?_
    refine pn_ret ?_
    exact pn_done rfl rfl ⟨by rw [byByte_F (fun i hi => hok i hi (by omega))]; rfl, rfl⟩ (List.nil_sublist _) (by simp)

end Go.Proofs.YtaakjgmehbbgfaaGreatDoor
