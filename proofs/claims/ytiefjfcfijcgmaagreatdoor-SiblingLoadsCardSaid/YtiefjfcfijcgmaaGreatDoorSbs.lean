import Derived.Test.YtiefjfcfijcgmaaGreatDoorSib
namespace Go.Proofs.YtiefjfcfijcgmaaGreatDoor
open Go Go.Mv
set_option maxRecDepth 8000
theorem nodup_len {α : Type} [DecidableEq α] : ∀ {xs l : List α}, xs.Nodup → (∀ x ∈ xs, x ∈ l) → xs.length ≤ l.length
  | [], _, _, _ => Nat.zero_le _
  | x :: xs, l, h, hs => by
    have hx := hs x List.mem_cons_self
    rw [List.nodup_cons] at h
    have h1 := nodup_len (l := l.erase x) h.2 (fun y hy => (List.mem_erase_of_ne (fun he => h.1 (by rw [← he]; exact hy))).2 (hs y (List.mem_cons_of_mem _ hy)))
    rw [List.length_erase_of_mem hx] at h1
    have := List.length_pos_of_mem hx
    simp only [List.length_cons]; omega
theorem setOf_len {l xs : List (Nat → Int)} (h : SetOf l xs) : xs.length ≤ l.length := by
  have : DecidableEq (Nat → Int) := fun a b => Classical.propDecidable (a = b)
  exact nodup_len (srt_nodup h.1) fun x hx => (h.2 x).1 hx

set_option maxHeartbeats 2000000 in
theorem c_s19same (bs br : Nat) (ref : ByteArray) (lv lv2 : Value) (HX : Mem) (l : List Rec) (w : World) (hne : ref ≠ ⟨#[]⟩) (hb : Rdx 52 recC HX lv l) (hb2 : Rdx 52 recC HX lv2 l) (hok : ∀ r ∈ l, RecOk r) (hlen : l.length ≤ 1000000) (hH : Hp ((bs, .cells #[.string ref, lv] 56 (0, 0)) :: (br, .cells #[.string ref, lv2] 89 (0, 0)) :: HX) w) : Calls Tryz.prog 13 #[.pointer (some ⟨bs, 0, none⟩), .pointer (some ⟨br, 0, none⟩)] w (Ret w [] fun r H1 => r = .bool true ∧ H1 = []) := by
  have hal := alL_le l
  refine fn_enter (args := [_, _]) Tryz.func13 rfl Tryz.ntmps13 rfl hH ?_
  refine pn_seq ?_
  refine pn_plain [] rfl ?_
  refine TE_q rfl rfl (RD.assign rfl) rfl ?_
  refine TE_nil0 ?_
  refine pn_seq ?_
  refine pn_plain [] rfl ?_
  refine TE_q rfl rfl (RD.move rfl) rfl ?_
  refine TE_call rfl rfl trivial Tryz.call17 rfl rfl rfl (fun w hs' => c_sibAll bs ref lv ((br, .cells #[.string ref, lv2] 89 (0, 0)) :: HX) l w hne (hb.mono (fun _ hw => hw.sp (fun a => by simp -failIfUnchanged <;> omega))) hok hlen (hs'.hp.sp (fun a => by simp -failIfUnchanged <;> omega))) ?_
  rintro v12 H1 ⟨st1, hbo1, rfl, rfl⟩ hX1
  refine TE_q rfl rfl (RD.move rfl) rfl ?_
  refine TE_call rfl rfl trivial Tryz.call23 rfl rfl rfl (fun w hs' => c_sibAlive bs ref lv ((br, .cells #[.string ref, lv2] 89 (0, 0)) :: HX) l w hne (hb.mono (fun _ hw => hw.sp (fun a => by simp -failIfUnchanged <;> omega))) hok hlen (hs'.hp.sp (fun a => by simp -failIfUnchanged <;> omega))) ?_
  rintro v14 H3 ⟨st2, hbo2, rfl, rfl⟩ hX2
  refine TE_q rfl rfl (RD.move rfl) rfl ?_
  refine TE_call rfl rfl trivial Tryz.call19 rfl rfl rfl (fun w hs' => c_sibTips bs ref lv ((br, .cells #[.string ref, lv2] 89 (0, 0)) :: HX) l w hne (hb.mono (fun _ hw => hw.sp (fun a => by simp -failIfUnchanged <;> omega))) hok hlen (hs'.hp.sp (fun a => by simp -failIfUnchanged <;> omega))) ?_
  rintro v16 H5 ⟨ts, st3, hset, hbo3, rfl, rfl⟩ hX3
  refine TE_q rfl rfl (RD.assign rfl) rfl ?_
  refine TE_q rfl rfl (RD.assign rfl) rfl ?_
  refine TE_q rfl rfl (RD.assign rfl) rfl ?_
  refine TE_nil0 ?_
  refine pn_seq ?_
  refine pn_sp ((bs, .cells #[.string ref, lv] 56 (0, 0)) :: (br, .cells #[.string ref, lv2] 89 (0, 0)) :: (bldMx 40 recC l st1 ++ (bldMx 40 recC (alL l) st2 ++ (bldMx 38 idC ts st3 ++ HX)))) (fun a => by simp -failIfUnchanged <;> omega) ?_
  refine pn_drawT [4, 24] [] [0, 1] [_, _] (bldMx 40 recC l st1 ++ (bldMx 40 recC (alL l) st2 ++ (bldMx 38 idC ts st3 ++ HX))) rfl rfl (by kernel_rfl) (by kernel_rfl) rfl rfl ?_
  refine TE_q rfl rfl (RD.move rfl) rfl ?_
  refine TE_q rfl rfl (RD.move rfl) rfl ?_
  refine TE_q rfl rfl (RD.nilCheckP rfl) rfl ?_
  refine TE_q rfl rfl (RD.fieldAddr (o := 1) Tryz.runUnderlying89 rfl rfl Tryz.sizeOf22 rfl) rfl ?_
  refine TE_q rfl rfl (RD.load (i := 1) Tryz.isAgg22 rfl rfl rfl) rfl ?_
  refine TE_call rfl rfl trivial Tryz.call12 rfl rfl rfl (fun w hs' => c_r12Same (bldMx 40 recC l st1 ++ HX) _ _ l l w ((hbo1.rdx (u := 40) recC_len).mono (fun _ hw => hw.sp (fun a => by simp -failIfUnchanged <;> omega))) (hb2.mono (fun _ hw => hw.sp (fun a => by simp -failIfUnchanged <;> omega))) hlen (hs'.hp.sp (fun a => by simp -failIfUnchanged <;> omega))) ?_
  rintro v22 H5 ⟨rfl, rfl⟩ -; rw [sameLB_self]
  refine TE_q rfl rfl (RD.move rfl) rfl ?_
  refine TE_isT ?_
  first | (refine TE_s rfl rfl rfl rfl rfl ?_) | (refine TE_gq rfl rfl rfl rfl (RD.move rfl) rfl ?_)
  first | (refine TE_s rfl rfl rfl rfl rfl ?_) | (refine TE_gq rfl rfl rfl rfl (RD.move rfl) rfl ?_)
  first | (refine TE_s rfl rfl rfl rfl rfl ?_) | ((refine TE_call rfl rfl ⟨_, rfl, rfl⟩ Tryz.call46 rfl rfl rfl (fun w hs' => c_r19Alive br ref lv2 ((bs, .cells #[.string ref, lv] 56 (0, 0)) :: HX) l w (hb2.mono (fun _ hw => hw.sp (fun a => by simp -failIfUnchanged <;> omega))) hok hlen (hs'.hp.sp (fun a => by simp -failIfUnchanged <;> omega))) ?_; rintro v26 H9 ⟨st4, hbo4, rfl, rfl⟩ hX4))
  first | (refine TE_s rfl rfl rfl rfl rfl ?_) | ((refine TE_call rfl rfl ⟨_, rfl, rfl⟩ Tryz.call12 rfl rfl rfl (fun w hs' => c_r12Same (bldMx 40 recC (alL l) st2 ++ bldMx 40 recC (alL l) st4) _ _ (alL l) (alL l) w ((hbo2.rdx (u := 40) recC_len).mono (fun _ hw => hw.sp (fun a => by simp -failIfUnchanged <;> omega))) ((hbo4.rdx (u := 40) recC_len).mono (fun _ hw => hw.sp (fun a => by simp -failIfUnchanged <;> omega))) (by have := alL_le l; omega) (hs'.hp.sp (fun a => by simp -failIfUnchanged <;> omega))) ?_; rintro v27 H10 ⟨rfl, rfl⟩ -; rw [sameLB_self]))
  first | (refine TE_q rfl rfl (RD.pickT rfl rfl) rfl ?_) | (refine TE_q rfl rfl (RD.pickF rfl rfl) rfl ?_)
  refine TE_q rfl rfl (RD.move rfl) rfl ?_
  refine TE_isT ?_
  first | (refine TE_s rfl rfl rfl rfl rfl ?_) | (refine TE_gq rfl rfl rfl rfl (RD.move rfl) rfl ?_)
  first | (refine TE_s rfl rfl rfl rfl rfl ?_) | (refine TE_gq rfl rfl rfl rfl (RD.move rfl) rfl ?_)
  first | (refine TE_s rfl rfl rfl rfl rfl ?_) | ((refine TE_call rfl rfl ⟨_, rfl, rfl⟩ Tryz.call47 rfl rfl rfl (fun w hs' => c_r19Tips br ref lv2 ((bs, .cells #[.string ref, lv] 56 (0, 0)) :: HX) l w (hb2.mono (fun _ hw => hw.sp (fun a => by simp -failIfUnchanged <;> omega))) hok hlen (hs'.hp.sp (fun a => by simp -failIfUnchanged <;> omega))) ?_; rintro v32 H15 ⟨ts2, st5, hset2, hbo5, rfl, rfl⟩ hX5; obtain rfl := hset.uniq hset2))
  first | (refine TE_s rfl rfl rfl rfl rfl ?_) | ((refine TE_call rfl rfl ⟨_, rfl, rfl⟩ Tryz.call21 rfl rfl rfl (fun w hs' => c_r3Same (bldMx 38 idC ts st3 ++ bldMx 38 idC ts st5) _ _ ts ts w ((hbo3.rdx (u := 38) idC_len).mono (fun _ hw => hw.sp (fun a => by simp -failIfUnchanged <;> omega))) ((hbo5.rdx (u := 38) idC_len).mono (fun _ hw => hw.sp (fun a => by simp -failIfUnchanged <;> omega))) (by have := setOf_len hset; rw [tipsL_len] at this; have := alL_le l; omega) (hs'.hp.sp (fun a => by simp -failIfUnchanged <;> omega))) ?_; rintro v33 H16 ⟨rfl, rfl⟩ -; rw [sameIL_self]))
  first | (refine TE_q rfl rfl (RD.pickT rfl rfl) rfl ?_) | (refine TE_q rfl rfl (RD.pickF rfl rfl) rfl ?_)
  refine TE_q rfl rfl (RD.move rfl) rfl ?_
  refine TE_isT ?_
  first | (refine TE_s rfl rfl rfl rfl rfl ?_) | (refine TE_gq rfl rfl rfl rfl (RD.move rfl) rfl ?_)
  first | (refine TE_s rfl rfl rfl rfl rfl ?_) | ((refine TE_call rfl rfl ⟨_, rfl, rfl⟩ Tryz.call24 rfl rfl rfl (fun w hs' => c_sibRef bs ref lv w hne (hs'.hp.sp (fun a => by simp -failIfUnchanged <;> omega))) ?_; rintro v37 H20 ⟨rfl, rfl⟩ -))
  first | (refine TE_s rfl rfl rfl rfl rfl ?_) | (refine TE_gq rfl rfl rfl rfl (RD.move rfl) rfl ?_)
  first | (refine TE_s rfl rfl rfl rfl rfl ?_) | (refine TE_gq rfl rfl rfl rfl (RD.nilCheckP rfl) rfl ?_)
  first | (refine TE_s rfl rfl rfl rfl rfl ?_) | (refine TE_gq rfl rfl rfl rfl (RD.fieldAddr (o := 0) Tryz.runUnderlying89 rfl rfl Tryz.sizeOf9 rfl) rfl ?_)
  first | (refine TE_s rfl rfl rfl rfl rfl ?_) | (refine TE_gq rfl rfl rfl rfl (RD.load (i := 1) Tryz.isAgg9 rfl rfl rfl) rfl ?_)
  first | (refine TE_s rfl rfl rfl rfl rfl ?_) | (refine TE_gq rfl rfl rfl rfl (RD.as (v := .bool true) (RD.eql_string rfl rfl) (by simp)) rfl ?_)
  first | (refine TE_q rfl rfl (RD.pickT rfl rfl) rfl ?_) | (refine TE_q rfl rfl (RD.pickF rfl rfl) rfl ?_)
  refine TE_q rfl rfl (RD.assign rfl) rfl ?_
  refine TE_nil ?_
  refine pn_seq ?_
  refine pn_seq ?_
  refine pn_plain [1] rfl ?_
  refine TE_q rfl rfl (RD.move rfl) rfl ?_
  refine TE_q rfl rfl (RD.lenX Tryz.runUnderlying22 rfl (hbo1.rdx (u := 40) recC_len)) rfl ?_
  refine TE_q rfl rfl (RD.move rfl) rfl ?_
  refine TE_nil0 ?_
  refine pn_block ?_
  have hown1 : ∀ e ∈ bldMx 40 recC l st1, w.heap.size ≤ e.1 ∨ e.1 ∈ ([] : List Nat) := (fun e he => .inl (hX1 e he)); refine pn_loopS (σ := Nat × List Rec) (fun q => [(46, .int .i64 (q.1 : Int)), (45, .int .i64 (l).length), (5, bldVx l st1), (6, bldVx (alL l) st2), (8, .bool true)]) (fun q => bldMx 40 recC q.2 st1 ++ bldMx 40 recC (alL l) st2) (fun q => q.1 ≤ (l).length ∧ q.2.length = (l).length ∧ BldOk 52 recC q.2 st1) (fun q => (l).length - q.1) (0, l) ⟨Nat.zero_le _, rfl, hbo1⟩ ⟨rfl, rfl, rfl, rfl, rfl, trivial⟩ (fun a => by simp -failIfUnchanged <;> omega) ?_
  rintro ⟨i, zs⟩ ⟨hi, hzl, hbz⟩; dsimp only at hi hzl hbz ⊢
  refine pn_seq ?_
  refine pn_plain [] rfl ?_
  refine TE_q rfl rfl (RD.lss rfl rfl) rfl ?_
  refine TE_nil0 ?_
  refine pn_seq ?_
  first | refine pn_condD rfl (fun hc0 => ?_) (fun hc0 => ?_) | refine pn_condN rfl (fun hc0 => ?_) (fun hc0 => ?_) | refine pn_cond rfl (fun hc0 => ?_) (fun hc0 => ?_)
  · refine pn_skip ?_
    refine pn_seq ?_
    refine pn_block ?_
    refine pn_seq ?_
    refine pn_plain [] rfl ?_
    refine TE_q rfl rfl (RD.move rfl) rfl ?_
    refine TE_q rfl rfl (RD.assign rfl) rfl ?_
    refine TE_nil0 ?_
    obtain ⟨bx, capx, tlx, rfl⟩ := hbz.some_of (fun h => by rw [h] at hzl; simp at hzl; omega); have hq9 : ∃ z, zs[i]? = some z := ⟨_, List.getElem?_eq_getElem (by omega)⟩; obtain ⟨z, hz⟩ := hq9
    refine pn_plain [] rfl ?_
    refine TE_q rfl rfl (RD.move rfl) rfl ?_
    refine TE_q rfl rfl (RD.move rfl) rfl ?_
    refine TE_q rfl rfl (RD.indexX (i := i) Tryz.runUnderlying22 Tryz.sizeOf40 (b := bx) (off := 0) (len := l.length) (cap := capx) rfl rfl rfl (by omega)) rfl ?_
    refine TE_q rfl rfl (RD.fieldAddr (o := 0 + i * 52 + 18) Tryz.runUnderlying40 rfl rfl Tryz.sizeOf9 rfl) rfl ?_
    refine TE_setX (i := i) (f := 18) (z := z) (z' := { z with ref := ⟨#[120]⟩ }) (bldMx 40 recC (alL l) st2) recC_len rfl rfl Tryz.sizeOf9 trivial rfl rfl rfl rfl (by omega) hz (by decide) rfl (hown1 _ List.mem_cons_self) ?_
    refine TE_nil0 ?_
    refine pn_plain [] rfl ?_
    refine TE_q rfl rfl (RD.addI rfl rfl (by omega) (by omega)) rfl ?_
    refine TE_q rfl rfl (RD.move rfl) rfl ?_
    refine TE_nil0 ?_
    (exact pn_againS (i + 1, zs.set i { z with ref := ⟨#[120]⟩ }) ⟨by show i + 1 ≤ _; omega, by show (zs.set i _).length = _; rw [List.length_set]; exact hzl, BldOk.set recC_len hbz i _⟩ (by show (l).length - (i + 1) < (l).length - i; omega) ⟨rfl, rfl, rfl, rfl, rfl, trivial⟩ (fun a => by simp -failIfUnchanged <;> omega))
  · refine pn_exit ?_
    refine pn_seq ?_
    refine pn_seq ?_
    refine pn_plain [1] rfl ?_
    refine TE_q rfl rfl (RD.move rfl) rfl ?_
    refine TE_q rfl rfl (RD.lenX Tryz.runUnderlying22 rfl (hbo2.rdx (u := 40) recC_len)) rfl ?_
    refine TE_q rfl rfl (RD.move rfl) rfl ?_
    refine TE_nil0 ?_
    refine pn_block ?_
    have hown2 : ∀ e ∈ bldMx 40 recC (alL l) st2, w.heap.size ≤ e.1 ∨ e.1 ∈ ([] : List Nat) := (fun e he => .inl (hX2 e he)); refine pn_loopS (σ := Nat × List Rec) (fun q => [(56, .int .i64 (q.1 : Int)), (55, .int .i64 ((alL l)).length), (6, bldVx (alL l) st2), (8, .bool true)]) (fun q => bldMx 40 recC q.2 st2 ++ []) (fun q => q.1 ≤ ((alL l)).length ∧ q.2.length = ((alL l)).length ∧ BldOk 52 recC q.2 st2) (fun q => ((alL l)).length - q.1) (0, (alL l)) ⟨Nat.zero_le _, rfl, hbo2⟩ ⟨rfl, rfl, rfl, rfl, trivial⟩ (fun a => by simp -failIfUnchanged <;> omega) ?_
    rintro ⟨i, zs⟩ ⟨hi, hzl, hbz⟩; dsimp only at hi hzl hbz ⊢
    refine pn_seq ?_
    refine pn_plain [] rfl ?_
    refine TE_q rfl rfl (RD.lss rfl rfl) rfl ?_
    refine TE_nil0 ?_
    refine pn_seq ?_
    first | refine pn_condD rfl (fun hc1 => ?_) (fun hc1 => ?_) | refine pn_condN rfl (fun hc1 => ?_) (fun hc1 => ?_) | refine pn_cond rfl (fun hc1 => ?_) (fun hc1 => ?_)
    · refine pn_skip ?_
      refine pn_seq ?_
      refine pn_block ?_
      refine pn_seq ?_
      refine pn_plain [] rfl ?_
      refine TE_q rfl rfl (RD.move rfl) rfl ?_
      refine TE_q rfl rfl (RD.assign rfl) rfl ?_
      refine TE_nil0 ?_
      obtain ⟨bx, capx, tlx, rfl⟩ := hbz.some_of (fun h => by rw [h] at hzl; simp at hzl; omega); have hq9 : ∃ z, zs[i]? = some z := ⟨_, List.getElem?_eq_getElem (by omega)⟩; obtain ⟨z, hz⟩ := hq9
      refine pn_plain [] rfl ?_
      refine TE_q rfl rfl (RD.move rfl) rfl ?_
      refine TE_q rfl rfl (RD.move rfl) rfl ?_
      refine TE_q rfl rfl (RD.indexX (i := i) Tryz.runUnderlying22 Tryz.sizeOf40 (b := bx) (off := 0) (len := (alL l).length) (cap := capx) rfl rfl rfl (by omega)) rfl ?_
      refine TE_q rfl rfl (RD.fieldAddr (o := 0 + i * 52) Tryz.runUnderlying40 rfl rfl Tryz.sizeOf33 rfl) rfl ?_
      refine TE_q rfl rfl (RD.fieldAddr (o := 0 + i * 52) Tryz.runUnderlying33 rfl rfl Tryz.sizeOf3 rfl) rfl ?_
      refine TE_setX (i := i) (f := 0) (z := z) (z' := { z with s := -1 }) ([]) recC_len rfl rfl Tryz.sizeOf3 trivial rfl rfl rfl rfl (by omega) hz (by decide) rfl (hown2 _ List.mem_cons_self) ?_
      refine TE_nil0 ?_
      refine pn_plain [] rfl ?_
      refine TE_q rfl rfl (RD.addI rfl rfl (by omega) (by omega)) rfl ?_
      refine TE_q rfl rfl (RD.move rfl) rfl ?_
      refine TE_nil0 ?_
      (exact pn_againS (i + 1, zs.set i { z with s := -1 }) ⟨by show i + 1 ≤ _; omega, by show (zs.set i _).length = _; rw [List.length_set]; exact hzl, BldOk.set recC_len hbz i _⟩ (by show ((alL l)).length - (i + 1) < ((alL l)).length - i; omega) ⟨rfl, rfl, rfl, rfl, trivial⟩ (fun a => by simp -failIfUnchanged <;> omega))
    · refine pn_exit ?_
      refine pn_seq ?_
      refine pn_plain [] rfl ?_
      refine TE_q rfl rfl (RD.move rfl) rfl ?_
      refine TE_q rfl rfl (RD.assign rfl) rfl ?_
      refine TE_nil0 ?_
      refine pn_ret ?_
      exact pn_done rfl rfl ⟨rfl, rfl⟩ (List.nil_sublist _) (by simp)

end Go.Proofs.YtiefjfcfijcgmaaGreatDoor
