import Derived.Test.YtjdjlcmajeikcaaMvL
import Derived.Test.YtjdjlcmajeikcaaShl
import Derived.Test.YtjdjlcmajeikcaaProg
import Derived.Test.YtjdjlcmajeikcaaMvB
namespace Go.Proofs.Ytjdjlcmajeikcaa
open Go Go.Mv
set_option maxRecDepth 8000
theorem sep_dec : ∀ pos, pos < 2 → (Utf8.decode ⟨#[47, 0]⟩ pos).1 ≠ 65533 := by decide

theorem sep_idx (c : UInt8) : Lib.indexByte ((⟨#[47, 0]⟩ : ByteArray).extract 2 (⟨#[47, 0]⟩ : ByteArray).size).data.toList c = -1 := rfl

theorem c_runeBig (r : Int) (w : World) (hr : 128 ≤ r) (hH : Hp [] w) : Calls Try.prog 80 #[.string ⟨#[47, 0]⟩, .int .i32 r] w (Ret w [] fun v H1 => v = .int .i64 (-1) ∧ H1 = []) := by
  have ⟨henc, henc4, henc2⟩ := enc_big hr
  refine fn_enter (args := [_, _]) Try.func80 rfl Try.ntmps80 rfl hH ?_
  refine pn_seq ?_
  refine pn_plain [] rfl ?_
  refine TE_q rfl rfl (RD.assign rfl) rfl ?_
  refine TE_nil0 ?_
  refine pn_block ?_
  refine pn_seq ?_
  refine pn_plain [] rfl ?_
  refine TE_q rfl rfl (RD.move rfl) rfl ?_
  refine TE_q rfl rfl (RD.leq rfl rfl) rfl ?_
  refine TE_q rfl rfl (RD.move rfl) rfl ?_
  refine TE_join (σ := Unit) (fun _ => [(0, .string ⟨#[47, 0]⟩), (1, .int .i32 r), (160, .bool ((decide (0 ≤ r)) && (decide (r < 128))))]) (fun _ => []) (fun _ => True) ?_ ?_
  · refine TE_dec (fun hf1 => ?_) (fun hf1 => ?_)
    · refine TE_gq rfl rfl rfl rfl (RD.move rfl) rfl ?_
      refine TE_gq rfl rfl rfl rfl (RD.lss rfl rfl) rfl ?_
      refine TE_q rfl rfl (RD.pickT rfl rfl) rfl ?_
      refine TE_q rfl rfl (RD.assign rfl) rfl ?_
      refine TE_nil0 ?_
      exact pn_give () trivial ⟨rfl, rfl, congrArg (fun b => some (Value.bool b)) (by first | (simp [hf1]; done) | (simp only [decide_eq_true hf1]; rfl)), trivial⟩ (fun _ hw => hw.sp (fun a => by simp -failIfUnchanged <;> omega))
    · refine TE_s rfl rfl rfl rfl rfl ?_
      refine TE_s rfl rfl rfl rfl rfl ?_
      refine TE_q rfl rfl (RD.pickF rfl rfl) rfl ?_
      refine TE_q rfl rfl (RD.assign rfl) rfl ?_
      refine TE_nil0 ?_
      exact pn_give () trivial ⟨rfl, rfl, congrArg (fun b => some (Value.bool b)) (by first | (simp [hf1]; done) | (simp only [decide_eq_false hf1]; rfl)), trivial⟩ (fun _ hw => hw.sp (fun a => by simp -failIfUnchanged <;> omega))
  rintro _ -
  refine pn_cond rfl (fun hc2 => ?_) (fun hc2 => ?_)
  · exfalso
    simp only [Bool.and_eq_true, decide_eq_true_eq] at hc2; omega
  · simp only [Bool.and_eq_false_iff, decide_eq_false_iff_not] at hc2
    refine pn_seq ?_
    refine pn_plain [] rfl ?_
    refine TE_q rfl rfl (RD.move rfl) rfl ?_
    refine TE_q rfl rfl (RD.eql rfl rfl) rfl ?_
    refine TE_q rfl rfl (RD.assign rfl) rfl ?_
    refine TE_nil0 ?_
    refine pn_condD rfl (fun hc3 => ?_) (fun hc3 => ?_)
    · refine pn_seq ?_
      refine pn_seq ?_
      refine pn_plain [] rfl ?_
      refine TE_q rfl rfl (RD.move rfl) rfl ?_
      refine TE_rangeS rfl Try.runUnderlying9 rfl trivial rfl fun b175 hb175 => ?_
      refine TE_nil0 ?_
      refine pn_block ?_
      refine pn_loopS (σ := Nat) (fun q => [(175, .pointer (some ⟨b175, 0, none⟩))]) (fun q => [(b175, .stringIter ⟨#[47, 0]⟩ q)]) (fun q => True) (fun q => 2 - q) 0 trivial ⟨rfl, trivial⟩ (fun a => by simp -failIfUnchanged <;> omega) ?_
      rintro pos -
      refine pn_seq ?_
      refine pn_plain [] rfl ?_
      refine (if hn4 : pos < (⟨#[47, 0]⟩ : ByteArray).size then ?_ else ?_)
      · have ⟨hw5, hw6⟩ := decode_step hn4; refine TE_nextS (i := 0) rfl rfl trivial rfl rfl hn4 (.inl hb175) ?_
        refine TE_q rfl rfl (RD.extract rfl rfl) rfl ?_
        refine TE_nil0 ?_
        refine pn_seq ?_
        refine pn_condT rfl ?_
        refine pn_skip ?_
        refine pn_block ?_
        refine pn_seq ?_
        refine pn_plain [] rfl ?_
        refine TE_q rfl rfl (RD.extract rfl rfl) rfl ?_
        refine TE_q rfl rfl (RD.extract rfl rfl) rfl ?_
        refine TE_q rfl rfl (RD.assign rfl) rfl ?_
        refine TE_q rfl rfl (RD.assign rfl) rfl ?_
        refine TE_nil0 ?_
        refine pn_seq ?_
        refine pn_plain [] rfl ?_
        refine TE_q rfl rfl (RD.move rfl) rfl ?_
        refine TE_q rfl rfl (RD.eql rfl rfl) rfl ?_
        refine TE_nil0 ?_
        refine pn_condD rfl (fun hc7 => ?_) (fun hc7 => ?_)
        · exfalso
          have := sep_dec pos (by assumption); omega
        · refine pn_skip ?_
          exact pn_againS (pos + (Utf8.decode (⟨#[47, 0]⟩ : ByteArray) pos).2) trivial (by have h9 : (⟨#[47, 0]⟩ : ByteArray).size = 2 := rfl; omega) ⟨rfl, trivial⟩ (fun a => by simp -failIfUnchanged <;> omega)
      · refine TE_nextE (i := 0) rfl rfl trivial rfl rfl hn4 ?_
        refine TE_q rfl rfl (RD.extract rfl rfl) rfl ?_
        refine TE_nil0 ?_
        refine pn_seq ?_
        refine pn_condF rfl ?_
        refine pn_exit ?_
        refine pn_seq ?_
        refine pn_plainG [] [] rfl (fun a => by simp -failIfUnchanged <;> omega) ?_
        refine TE_q rfl rfl (RD.assign rfl) rfl ?_
        refine TE_nil0 ?_
        refine pn_ret ?_
        exact pn_doneS [] rfl rfl ⟨rfl, rfl⟩ (fun _ => Nat.zero_le _) (fun _ he => nomatch he)
    · refine pn_seq ?_
      refine pn_plain [] rfl ?_
      refine TE_q rfl rfl (RD.move rfl) rfl ?_
      refine TE_callG _ [] rfl rfl trivial Try.call85 rfl rfl rfl (fun w hw => Ret.same (Try.utf8_ValidRune r w)) (fun a => by simp -failIfUnchanged <;> omega) ?_
      rintro v8 H9 ⟨rfl, rfl⟩ -
      refine TE_q rfl rfl (RD.not rfl) rfl ?_
      refine TE_q rfl rfl (RD.assign rfl) rfl ?_
      refine TE_nil0 ?_
      refine pn_cond rfl (fun hc10 => ?_) (fun hc10 => ?_)
      · simp only [Bool.not_eq_true'] at hc10
        refine pn_seq ?_
        refine pn_plain [] rfl ?_
        refine TE_q rfl rfl (RD.assign rfl) rfl ?_
        refine TE_nil0 ?_
        refine pn_ret ?_
        exact pn_doneS [] rfl rfl ⟨rfl, rfl⟩ (fun _ => Nat.zero_le _) (fun _ he => nomatch he)
      · simp only [Bool.not_eq_false'] at hc10
        refine pn_scope ?_
        refine pn_seq ?_
        refine pn_plain [] rfl ?_
        refine TE_q rfl rfl (RD.move rfl) rfl ?_
        refine TE_l rfl rfl trivial rfl (RD.str_of_rune Try.runUnderlying21 Try.runUnderlying9 rfl) rfl ?_
        refine TE_q rfl rfl (RD.assign rfl) rfl ?_
        refine TE_nil0 ?_
        refine pn_seq ?_
        refine pn_plain [1] rfl ?_
        refine TE_q rfl rfl (RD.move rfl) rfl ?_
        refine TE_q rfl rfl (RD.len_string Try.runUnderlying9 rfl) rfl ?_
        refine TE_q rfl rfl (RD.subI rfl rfl (by omega) (by omega)) rfl ?_
        refine TE_q rfl rfl (RD.assign rfl) rfl ?_
        refine TE_nil0 ?_
        refine pn_seq ?_
        refine pn_plain [] rfl ?_
        refine TE_q rfl rfl (RD.move rfl) rfl ?_
        refine TE_q rfl rfl (RD.assign rfl) rfl ?_
        refine TE_nil0 ?_
        refine pn_seq ?_
        refine pn_plain [] rfl ?_
        refine TE_q rfl rfl (RD.assign rfl) rfl ?_
        refine TE_nil0 ?_
        refine pn_seq ?_
        refine pn_block ?_
        refine pn_loopS (σ := Unit) (fun q => [(0, .string ⟨#[47, 0]⟩), (7, .string (Utf8.encode r)), (8, .int .i64 (((Utf8.encode r).size : Int) - 1)), (9, .int .i64 (((Utf8.encode r).size : Int) - 1)), (10, .int .i64 0)]) (fun q => []) (fun q => True) (fun q => 0) () trivial ⟨rfl, rfl, rfl, rfl, rfl, trivial⟩ (fun a => by simp -failIfUnchanged <;> omega) ?_
        rintro _ -
        refine pn_seq ?_
        refine pn_seq ?_
        refine pn_plain [2] rfl ?_
        refine TE_q rfl rfl (RD.move rfl) rfl ?_
        refine TE_q rfl rfl (RD.move rfl) rfl ?_
        refine TE_q rfl rfl (RD.as (v := .int .i64 2) (RD.len_string Try.runUnderlying9 rfl) rfl) rfl ?_
        refine TE_q rfl rfl (RD.lss rfl rfl) rfl ?_
        refine TE_nil0 ?_
        refine pn_condD rfl (fun hc11 => ?_) (fun hc11 => ?_)
        · refine pn_skip ?_
          refine pn_block ?_
          refine pn_scope ?_
          refine pn_seq ?_
          refine pn_seq ?_
          refine pn_drawG [] [] [] rfl rfl (by kernel_rfl) (fun a => by simp -failIfUnchanged <;> omega) ?_
          refine TE_q rfl rfl (RD.move rfl) rfl ?_
          refine TE_q rfl rfl (RD.move rfl) rfl ?_
          refine TE_q rfl rfl (RD.indexStr (i := 1) Try.underlying9 rfl rfl (by omega) (gt_some (lt_data (by first | omega | exact Nat.le_of_ble_eq_true rfl)))) rfl ?_
          refine TE_q rfl rfl (RD.move rfl) rfl ?_
          refine TE_q rfl rfl (RD.move rfl) rfl ?_
          refine TE_q rfl rfl (RD.indexStr (i := 1) Try.underlying9 rfl rfl (by omega) (gt_some (lt_data (by first | omega | exact Nat.le_of_ble_eq_true rfl)))) rfl ?_
          refine TE_q rfl rfl (RD.neq rfl rfl) rfl ?_
          refine TE_nil ?_
          refine pn_condN rfl (fun hc12 => ?_) (fun hc12 => ?_)
          · refine pn_seq ?_
            refine pn_drawG [] [] [] rfl rfl (by kernel_rfl) (fun a => by simp -failIfUnchanged <;> omega) ?_
            refine TE_q rfl rfl (RD.move rfl) rfl ?_
            refine TE_q rfl rfl (RD.move rfl) rfl ?_
            refine TE_q rfl rfl (RD.addI rfl rfl (by omega) (by omega)) rfl ?_
            refine TE_q rfl rfl (RD.sliceStr (l := 2) (h := (⟨#[47, 0]⟩ : ByteArray).size) Try.underlying9 rfl ⟨_, congrArg (fun z => some (Value.int .i64 z)) (show ((Utf8.encode r).size : Int) - 1 + 1 = ((2 : Nat) : Int) by omega)⟩ rfl (Nat.le_refl _) (Nat.le_refl _)) rfl ?_
            refine TE_q rfl rfl (RD.move rfl) rfl ?_
            refine TE_q rfl rfl (RD.move rfl) rfl ?_
            refine TE_q rfl rfl (RD.indexStr (i := 1) Try.underlying9 rfl rfl (by omega) (gt_some (lt_data (by first | omega | exact Nat.le_of_ble_eq_true rfl)))) rfl ?_
            refine TE_callG _ [] rfl rfl trivial Try.call84 rfl rfl rfl (fun w hw => Ret.same (Try.strings_IndexByte ((⟨#[47, 0]⟩ : ByteArray).extract 2 (⟨#[47, 0]⟩ : ByteArray).size) ((gt (Utf8.encode r).data.toList 1).toNat : Int) w)) (fun a => by simp -failIfUnchanged <;> omega) ?_
            rintro v13 H14 ⟨rfl, rfl⟩ -
            refine TE_q rfl rfl (RD.assign rfl) rfl ?_
            refine TE_nil ?_
            refine pn_seq ?_
            refine pn_seq ?_
            refine pn_plainG [] [] rfl (fun a => by simp -failIfUnchanged <;> omega) ?_
            refine TE_q rfl rfl (RD.move rfl) rfl ?_
            refine TE_q rfl rfl (RD.lss rfl rfl) rfl ?_
            refine TE_nil0 ?_
            refine pn_condD rfl (fun hc15 => ?_) (fun hc15 => ?_)
            · refine pn_seq ?_
              refine pn_plain [] rfl ?_
              refine TE_q rfl rfl (RD.assign rfl) rfl ?_
              refine TE_nil0 ?_
              refine pn_ret ?_
              exact pn_doneS [] rfl rfl ⟨rfl, rfl⟩ (fun _ => Nat.zero_le _) (fun _ he => nomatch he)
            · exfalso
              exact hc15 (by rw [sep_idx]; decide)
          · exfalso
            have h9 := henc2 (by omega); have h8 : (gt ((⟨#[47, 0]⟩ : ByteArray).data.toList) 1) = 0 := rfl; rw [h8] at hc12; have h7 : (0 : UInt8).toNat = 0 := rfl; omega
        · refine pn_exit ?_
          refine pn_seq ?_
          refine pn_seq ?_
          refine pn_plain [] rfl ?_
          refine TE_q rfl rfl (RD.assign rfl) rfl ?_
          refine TE_nil0 ?_
          refine pn_ret ?_
          exact pn_doneS [] rfl rfl ⟨rfl, rfl⟩ (fun _ => Nat.zero_le _) (fun _ he => nomatch he)

theorem sep_key : ∀ n : Nat, n < 128 → decide (0 ≤ Lib.indexByte (⟨#[47, 0]⟩ : ByteArray).data.toList ((n : Int).toNat.toUInt8)) = decide ((n : Int) = 47 ∨ (n : Int) = 0) := by decide
theorem c_runeSep (r : Nat) (w : World) : Calls Try.prog 80 #[.string ⟨#[47, 0]⟩, .int .i32 (r : Int)] w (Ret w [] fun v H1 => ∃ z, v = .int .i64 z ∧ decide (0 ≤ z) = decide ((r : Int) = 47 ∨ (r : Int) = 0) ∧ H1 = []) := by
  by_cases h : r < 128
  · refine (Ret.same (Try.strings_IndexRune_ascii ⟨#[47, 0]⟩ r w (by omega) (by omega))).mono ?_
    rintro e w' ⟨v, H1, rfl, ⟨rfl, rfl⟩, h3⟩
    exact ⟨_, _, rfl, ⟨_, rfl, sep_key r h, rfl⟩, h3⟩
  · refine (c_runeBig (r : Int) w (by omega) (Hp.nil _)).mono ?_
    rintro e w' ⟨v, H1, rfl, ⟨rfl, rfl⟩, h3⟩
    exact ⟨_, _, rfl, ⟨_, rfl, by rw [decide_eq_false (by omega), decide_eq_false (by omega)], rfl⟩, h3⟩

theorem c_idxShort (s : ByteArray) (w : World) (hs : s.size ≤ 8) (hH : Hp [] w) : Calls Try.prog 79 #[.string s, .string ⟨#[47, 0]⟩] w (Ret w [] fun v H1 => ∃ z, v = .int .i64 z ∧ decide (0 ≤ z) = hasSep s ∧ H1 = []) := by
  refine fn_enter (args := [_, _]) Try.func79 rfl Try.ntmps79 rfl hH ?_
  refine pn_seq ?_
  refine pn_plain [] rfl ?_
  refine TE_q rfl rfl (RD.assign rfl) rfl ?_
  refine TE_nil0 ?_
  refine pn_seq ?_
  refine pn_seq ?_
  refine pn_plain [] rfl ?_
  refine TE_q rfl rfl (RD.move rfl) rfl ?_
  refine TE_q rfl rfl (RD.as (v := .bool false) (RD.eql_string rfl rfl) (congrArg Value.bool (by decide))) rfl ?_
  refine TE_nil0 ?_
  refine pn_condF rfl ?_
  refine pn_skip ?_
  refine pn_seq ?_
  refine pn_seq ?_
  refine pn_plain [1] rfl ?_
  refine TE_q rfl rfl (RD.move rfl) rfl ?_
  refine TE_q rfl rfl (RD.as (v := .int .i64 2) (RD.len_string Try.runUnderlying9 rfl) rfl) rfl ?_
  refine TE_q rfl rfl (RD.as (v := .bool false) (RD.eql rfl rfl) rfl) rfl ?_
  refine TE_nil0 ?_
  refine pn_condF rfl ?_
  refine pn_skip ?_
  refine pn_seq ?_
  refine pn_seq ?_
  refine pn_plain [1] rfl ?_
  refine TE_q rfl rfl (RD.move rfl) rfl ?_
  refine TE_q rfl rfl (RD.len_string Try.runUnderlying9 rfl) rfl ?_
  refine TE_callG _ [] rfl rfl trivial Try.call81 rfl rfl rfl (fun w hw => Ret.same (Try.strings_shouldUseASCIISet (s.size : Int) w)) (fun a => by simp -failIfUnchanged <;> omega) ?_
  rintro v1 H2 ⟨rfl, rfl⟩ -
  refine TE_nil0 ?_
  refine pn_condD rfl (fun hc3 => ?_) (fun hc3 => ?_)
  · exfalso
    omega
  · refine pn_skip ?_
    refine pn_seq ?_
    refine pn_seq ?_
    refine pn_plain [] rfl ?_
    refine TE_q rfl rfl (RD.move rfl) rfl ?_
    refine TE_rangeS rfl Try.runUnderlying9 rfl trivial rfl fun b45 hb45 => ?_
    refine TE_nil0 ?_
    refine pn_block ?_
    refine pn_loopS (σ := Nat) (fun q => [(1, .string ⟨#[47, 0]⟩), (45, .pointer (some ⟨b45, 0, none⟩))]) (fun q => [(b45, .stringIter s q)]) (fun q => (NoSep s q)) (fun q => s.size - q) 0 (fun j hj => absurd hj (Nat.not_lt_zero _)) ⟨rfl, rfl, trivial⟩ (fun a => by simp -failIfUnchanged <;> omega) ?_
    rintro pos hns
    refine pn_seq ?_
    refine pn_plain [] rfl ?_
    refine (if hn4 : pos < s.size then ?_ else ?_)
    · have ⟨hw5, hw6⟩ := decode_step hn4; refine TE_nextS (i := 0) rfl rfl trivial rfl rfl hn4 (.inl hb45) ?_
      refine TE_q rfl rfl (RD.extract rfl rfl) rfl ?_
      refine TE_nil0 ?_
      refine pn_seq ?_
      refine pn_condT rfl ?_
      refine pn_skip ?_
      refine pn_block ?_
      refine pn_seq ?_
      refine pn_plain [] rfl ?_
      refine TE_q rfl rfl (RD.extract rfl rfl) rfl ?_
      refine TE_q rfl rfl (RD.extract rfl rfl) rfl ?_
      refine TE_q rfl rfl (RD.assign rfl) rfl ?_
      refine TE_q rfl rfl (RD.assign rfl) rfl ?_
      refine TE_nil0 ?_
      refine pn_seq ?_
      refine pn_plain [] rfl ?_
      refine TE_q rfl rfl (RD.move rfl) rfl ?_
      refine TE_q rfl rfl (RD.move rfl) rfl ?_
      refine TE_callG _ [] rfl rfl trivial Try.call80 rfl rfl rfl (fun w hw => c_runeSep ((Utf8.decode s pos).1) w) (fun a => by simp -failIfUnchanged <;> omega) ?_
      rintro v9 H10 ⟨z7, rfl, hz8, rfl⟩ -
      refine TE_q rfl rfl (RD.geq rfl rfl) rfl ?_
      refine TE_nil0 ?_
      refine pn_condD rfl (fun hc11 => ?_) (fun hc11 => ?_)
      · refine pn_seq ?_
        refine pn_plainG [] [] rfl (fun a => by simp -failIfUnchanged <;> omega) ?_
        refine TE_q rfl rfl (RD.move rfl) rfl ?_
        refine TE_q rfl rfl (RD.assign rfl) rfl ?_
        refine TE_nil0 ?_
        refine pn_ret ?_
        exact pn_doneS [] rfl rfl ⟨_, rfl, (by rw [NoSep.hit (by assumption) hz8 (by assumption)]; exact decide_eq_true (by omega)), rfl⟩ (fun _ => Nat.zero_le _) (fun _ he => nomatch he)
      · refine pn_skip ?_
        exact pn_againS (pos + (Utf8.decode s pos).2) (hns.step (by assumption) hz8 (by assumption)) (by omega) ⟨rfl, rfl, trivial⟩ (fun a => by simp -failIfUnchanged <;> omega)
    · refine TE_nextE (i := 0) rfl rfl trivial rfl rfl hn4 ?_
      refine TE_q rfl rfl (RD.extract rfl rfl) rfl ?_
      refine TE_nil0 ?_
      refine pn_seq ?_
      refine pn_condF rfl ?_
      refine pn_exit ?_
      refine pn_seq ?_
      refine pn_plainG [] [] rfl (fun a => by simp -failIfUnchanged <;> omega) ?_
      refine TE_q rfl rfl (RD.assign rfl) rfl ?_
      refine TE_nil0 ?_
      refine pn_ret ?_
      exact pn_doneS [] rfl rfl ⟨_, rfl, (by rw [NoSep.none hns (by omega)]; rfl), rfl⟩ (fun _ => Nat.zero_le _) (fun _ he => nomatch he)

theorem c_idxSep (s : ByteArray) (w : World) (hs : s.size ≤ 1000000) : Calls Try.prog 79 #[.string s, .string ⟨#[47, 0]⟩] w (Ret w [] fun v H1 => ∃ z, v = .int .i64 z ∧ decide (0 ≤ z) = hasSep s ∧ H1 = []) := by
  by_cases h : s.size ≤ 8
  · exact c_idxShort s w h (Hp.nil _)
  · refine (Ret.new2 (Try.strings_IndexAny_long Try.zeroValue120 s ⟨#[47, 0]⟩ w (Nat.le_of_ble_eq_true rfl) (by omega) (by omega) (Nat.lt_of_lt_of_le (show 2 < 3 by decide) (by decide)) (fun j b hj => ?_))).mono ?_
    · have hl : j < 2 := (List.getElem?_eq_some_iff.1 hj).1
      have : j = 0 ∨ j = 1 := by omega
      rcases this with rfl | rfl
      · obtain rfl := Option.some.inj hj; decide
      · obtain rfl := Option.some.inj hj; decide
    · rintro e w' ⟨v, H1, rfl, ⟨rfl, rfl⟩, h3⟩
      exact ⟨_, _, rfl, ⟨_, rfl, indexAny_sep s, rfl⟩, h3⟩

theorem c_hasSep (s : ByteArray) (w : World) (hs : s.size ≤ 1000000) (hH : Hp [] w) : Calls Try.prog 78 #[.string s, .string ⟨#[47, 0]⟩] w (Ret w [] fun v H1 => v = .bool (hasSep s) ∧ H1 = []) := by
  refine fn_enter (args := [_, _]) Try.func78 rfl Try.ntmps78 rfl hH ?_
  refine pn_seq ?_
  refine pn_plain [] rfl ?_
  refine TE_q rfl rfl (RD.assign rfl) rfl ?_
  refine TE_nil0 ?_
  refine pn_seq ?_
  refine pn_plain [] rfl ?_
  refine TE_q rfl rfl (RD.move rfl) rfl ?_
  refine TE_q rfl rfl (RD.move rfl) rfl ?_
  refine TE_callG _ [] rfl rfl trivial Try.call79 rfl rfl rfl (fun w hw => c_idxSep s w hs) (fun a => by simp -failIfUnchanged <;> omega) ?_
  rintro v3 H4 ⟨z1, rfl, hz2, rfl⟩ -
  refine TE_q rfl rfl (RD.geq rfl rfl) rfl ?_
  refine TE_q rfl rfl (RD.assign rfl) rfl ?_
  refine TE_nil0 ?_
  refine pn_ret ?_
  exact pn_doneS [] rfl rfl ⟨(congrArg Value.bool hz2), rfl⟩ (fun _ => Nat.zero_le _) (fun _ he => nomatch he)

end Go.Proofs.Ytjdjlcmajeikcaa
