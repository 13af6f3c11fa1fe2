import Derived.Test.YtiefjfcfijcgmaaGreatDoorSrl
namespace Go.Proofs.YtiefjfcfijcgmaaGreatDoor
open Go Go.Mv
set_option maxRecDepth 8000
theorem c_r19LoadT (HX : Mem) (v : Value) (l : List Rec) (w : World) (hb : Rdx 52 recC HX v l) (hok : ∀ r ∈ l, RecOk r) (hlen : l.length ≤ 1000000) (hH : Hp HX w) (h : loadOk l) : Calls Tryz.prog 11 #[v] w (Ret w [] fun r H1 => ∃ bs st, BldOk 52 recC l st ∧ r = .tuple #[.pointer (some ⟨bs, 0, none⟩), .int .i64 0] ∧ H1 = (bs, .cells #[.string (refL l), bldVx l st] 89 (0, 0)) :: bldMx 40 recC l st) :=
  (c_r19Load HX v l w hb hok hlen hH).mono (by
    rintro e w' ⟨v, H1, rfl, (⟨bs, st, h1, _, h2, h3⟩ | ⟨h', _⟩), h4, h5, h6⟩
    · exact ⟨v, H1, rfl, ⟨bs, st, h1, h2, h3⟩, h4, h5, h6⟩
    · exact absurd h h')
theorem c_r19LoadF (HX : Mem) (v : Value) (l : List Rec) (w : World) (hb : Rdx 52 recC HX v l) (hok : ∀ r ∈ l, RecOk r) (hlen : l.length ≤ 1000000) (hH : Hp HX w) (h : ¬ loadOk l) : Calls Tryz.prog 11 #[v] w (Ret w [] fun r H1 => r = .tuple #[.pointer none, .int .i64 190] ∧ H1 = []) :=
  (c_r19Load HX v l w hb hok hlen hH).mono (by
    rintro e w' ⟨v, H1, rfl, (⟨bs, st, h1, h', h2, h3⟩ | ⟨_, h2⟩), h4, h5, h6⟩
    · exact absurd h' h
    · exact ⟨v, H1, rfl, h2, h4, h5, h6⟩)

set_option maxHeartbeats 4000000 in
theorem c_SiblingLoads (HA : Mem) (v : Value) (l : List Rec) (g : Obj) (w : World) (hl : Rdx 52 recC ((0, g) :: HA) v l) (hok : ∀ r ∈ l, RecOk r) (hlen : l.length ≤ 9223372036854775807) (hg : GOk g) (hH : Hp ((0, g) :: HA) w) : Calls Tryz.prog 3 #[v] w (Ret w [] fun v H1 => v = .bool true ∧ H1 = []) := by
  refine fn_enter (args := [_]) Tryz.func3 rfl Tryz.ntmps3 rfl hH ?_
  refine pn_seq ?_
  refine pn_plain [] rfl ?_
  refine TE_q rfl rfl (RD.assign rfl) rfl ?_
  refine TE_nil0 ?_
  refine pn_seq ?_
  refine pn_seq ?_
  refine pn_plain [] rfl ?_
  refine TE_q rfl rfl (RD.move rfl) rfl ?_
  refine TE_call rfl rfl trivial Tryz.call9 rfl rfl rfl (fun w hs' => c_s19great ((0, g) :: HA) v l w hl hlen (hs'.hp.sp (fun a => by simp -failIfUnchanged <;> omega))) ?_
  rintro v10 H1 ⟨rfl, rfl⟩ -
  refine TE_nil0 ?_
  first | refine pn_condD rfl (fun hc0 => ?_) (fun hc0 => ?_) | refine pn_condN rfl (fun hc0 => ?_) (fun hc0 => ?_) | refine pn_cond rfl (fun hc0 => ?_) (fun hc0 => ?_)
  · refine pn_seq ?_
    refine pn_plain [] rfl ?_
    refine TE_q rfl rfl (RD.assign rfl) rfl ?_
    refine TE_nil0 ?_
    refine pn_ret ?_
    exact pn_done rfl rfl ⟨rfl, rfl⟩ (List.nil_sublist _) (by simp)
  · refine pn_skip ?_
    refine pn_seq ?_
    have hgr := greatR_F (l := l) (by simpa using hc0); have hsz : ∀ r ∈ l, r.ref.size < 4294967281 := (fun r hr => by have := hgr.2 r hr; omega); have hl60 := hgr.1
    refine pn_plain [] rfl ?_
    refine TE_buildSlice0 rfl Tryz.runUnderlying22 Tryz.sizeOf40 trivial rfl fun b11 hb11 => ?_
    refine TE_q rfl rfl (RD.move rfl) rfl ?_
    refine TE_appendX (st := some (b11, 0, [])) (l := []) (ys := l) ((0, g) :: HA) recC_len recC_one rfl rfl rfl rfl trivial rfl Tryz.underlying22 elRec rfl rfl rfl ⟨Nat.le_refl _, by decide, rfl⟩ hl (fun _ hw => hw.sp (fun a => by simp -failIfUnchanged <;> omega)) (by simp; omega) rfl (bldx_all (fun k => w.heap.size ≤ k ∨ k ∈ ([] : List Nat)) (by rintro b cap tl ⟨⟩; exact .inl hb11)) ?_
    intro st0 hbo0 hX0 _; rw [List.nil_append] at hbo0 hX0 ⊢
    refine TE_q rfl rfl (RD.assign rfl) rfl ?_
    refine TE_nil0 ?_
    refine pn_seq ?_
    refine pn_plain [] rfl ?_
    refine TE_q rfl rfl (RD.move rfl) rfl ?_
    refine TE_sp (bldMx 40 recC l st0 ++ ((0, g) :: HA)) (fun a => by simp -failIfUnchanged <;> omega) ?_; refine TE_call (post := fun r H1 => (∃ bs st, BldOk 52 recC l st ∧ loadOk l ∧ r = .tuple #[.pointer (some ⟨bs, 0, none⟩), .int .i64 0] ∧ H1 = (bs, .cells #[.string (refL l), bldVx l st] 56 (0, 0)) :: bldMx 40 recC l st) ∨ (¬ loadOk l ∧ r = .tuple #[.pointer none, .int .i64 190] ∧ H1 = [])) rfl rfl trivial Tryz.call10 rfl rfl rfl (fun w hs' => c_sibLoad (bldMx 40 recC l st0 ++ HA) _ l g w ((hbo0.rdx (u := 40) recC_len).mono (fun _ hw => hw.sp (fun a => by simp -failIfUnchanged <;> omega))) hok hsz (by omega) hg (hs'.hp.sp (fun a => by simp -failIfUnchanged <;> omega))) ?_
    rintro v16 H1 hpo hX1; rcases hpo with ⟨bs, st1, hbo1, hld, rfl, rfl⟩ | ⟨hld, rfl, rfl⟩
    · refine TE_q rfl rfl (RD.move rfl) rfl ?_
      refine TE_q rfl rfl (RD.extract rfl rfl) rfl ?_
      refine TE_q rfl rfl (RD.extract rfl rfl) rfl ?_
      refine TE_q rfl rfl (RD.assign rfl) rfl ?_
      refine TE_q rfl rfl (RD.assign rfl) rfl ?_
      refine TE_nil0 ?_
      refine pn_seq ?_
      refine pn_plain [] rfl ?_
      refine TE_q rfl rfl (RD.move rfl) rfl ?_
      refine TE_call rfl rfl trivial Tryz.call11 rfl rfl rfl (fun w hs' => c_r19LoadT ((0, g) :: HA) v l w hl hok (by omega) (hs'.hp.sp (fun a => by simp -failIfUnchanged <;> omega)) hld) ?_
      rintro v21 H1 ⟨br, st2, hbo2, rfl, rfl⟩ hX2
      refine TE_q rfl rfl (RD.move rfl) rfl ?_
      refine TE_q rfl rfl (RD.extract rfl rfl) rfl ?_
      refine TE_q rfl rfl (RD.extract rfl rfl) rfl ?_
      refine TE_q rfl rfl (RD.assign rfl) rfl ?_
      refine TE_q rfl rfl (RD.assign rfl) rfl ?_
      refine TE_nil0 ?_
      refine pn_seq ?_
      refine pn_seq ?_
      refine pn_plain [] rfl ?_
      refine TE_q rfl rfl (RD.move rfl) rfl ?_
      refine TE_q rfl rfl (RD.move rfl) rfl ?_
      refine TE_q rfl rfl (RD.as (v := .bool false) (RD.neq rfl rfl) (by simp)) rfl ?_
      refine TE_q rfl rfl (RD.move rfl) rfl ?_
      refine TE_isF ?_
      first | (refine TE_s rfl rfl rfl rfl rfl ?_) | (refine TE_gq rfl rfl rfl rfl (RD.move rfl) rfl ?_)
      first | (refine TE_s rfl rfl rfl rfl rfl ?_) | (refine TE_gq rfl rfl rfl rfl (RD.ptr_eql_nil Tryz.runUnderlying24 rfl rfl) rfl ?_)
      first | (refine TE_s rfl rfl rfl rfl rfl ?_) | (refine TE_gq rfl rfl rfl rfl (RD.move rfl) rfl ?_)
      first | (refine TE_s rfl rfl rfl rfl rfl ?_) | (refine TE_gq rfl rfl rfl rfl (RD.as (v := .bool false) (RD.neq rfl rfl) (by simp)) rfl ?_)
      first | (refine TE_s rfl rfl rfl rfl rfl ?_) | (refine TE_gq rfl rfl rfl rfl (RD.as (v := .bool false) (RD.neq_bool Tryz.runUnderlying4 rfl rfl) (by simp)) rfl ?_)
      first | (refine TE_q rfl rfl (RD.pickT rfl rfl) rfl ?_) | (refine TE_q rfl rfl (RD.pickF rfl rfl) rfl ?_)
      refine TE_q rfl rfl (RD.move rfl) rfl ?_
      refine TE_isF ?_
      first | (refine TE_s rfl rfl rfl rfl rfl ?_) | (refine TE_gq rfl rfl rfl rfl (RD.move rfl) rfl ?_)
      first | (refine TE_s rfl rfl rfl rfl rfl ?_) | (refine TE_gq rfl rfl rfl rfl (RD.move rfl) rfl ?_)
      first | (refine TE_s rfl rfl rfl rfl rfl ?_) | ((refine TE_call rfl rfl ⟨_, rfl, rfl⟩ Tryz.call12 rfl rfl rfl (fun w hs' => c_r12Same (bldMx 40 recC l st0 ++ ((0, g) :: HA)) _ _ l l w ((hbo0.rdx (u := 40) recC_len).mono (fun _ hw => hw.sp (fun a => by simp -failIfUnchanged <;> omega))) (hl.mono (fun _ hw => hw.sp (fun a => by simp -failIfUnchanged <;> omega))) (by omega) (hs'.hp.sp (fun a => by simp -failIfUnchanged <;> omega))) ?_; rintro v37 H13 ⟨rfl, rfl⟩ -; rw [sameLB_self]))
      first | (refine TE_s rfl rfl rfl rfl rfl ?_) | (refine TE_gq rfl rfl rfl rfl (RD.as (v := .bool false) (RD.not rfl) rfl) rfl ?_)
      first | (refine TE_q rfl rfl (RD.pickT rfl rfl) rfl ?_) | (refine TE_q rfl rfl (RD.pickF rfl rfl) rfl ?_)
      refine TE_nil0 ?_
      refine pn_condF rfl ?_
      refine pn_skip ?_
      refine pn_seq ?_
      refine pn_seq ?_
      refine pn_plain [1] rfl ?_
      refine TE_q rfl rfl (RD.move rfl) rfl ?_
      refine TE_q rfl rfl (RD.lenX Tryz.runUnderlying22 rfl (hbo0.rdx (u := 40) recC_len)) rfl ?_
      refine TE_q rfl rfl (RD.move rfl) rfl ?_
      refine TE_nil0 ?_
      refine pn_block ?_
      refine pn_loopS (σ := Nat × List Rec) (fun q => [(42, .int .i64 (q.1 : Int)), (41, .int .i64 l.length), (3, bldVx l st0), (4, .pointer (some ⟨bs, 0, none⟩)), (6, .pointer (some ⟨br, 0, none⟩)), (7, .int .i64 0)]) (fun q => bldMx 40 recC q.2 st0 ++ ((bs, .cells #[.string (refL l), (bldVx l st1)] 56 (0, 0)) :: ((br, .cells #[.string (refL l), (bldVx l st2)] 89 (0, 0)) :: (bldMx 40 recC l st1 ++ bldMx 40 recC l st2)))) (fun q => q.1 ≤ l.length ∧ q.2.length = l.length ∧ BldOk 52 recC q.2 st0) (fun q => l.length - q.1) (0, l) ⟨Nat.zero_le _, rfl, hbo0⟩ ⟨rfl, rfl, rfl, rfl, rfl, rfl, trivial⟩ (fun a => by simp -failIfUnchanged <;> omega) ?_
      rintro ⟨i, zs⟩ ⟨hi, hzl, hbz⟩; dsimp only at hi hzl hbz ⊢
      refine pn_seq ?_
      refine pn_plain [] rfl ?_
      refine TE_q rfl rfl (RD.lss rfl rfl) rfl ?_
      refine TE_nil0 ?_
      refine pn_seq ?_
      first | refine pn_condD rfl (fun hc2 => ?_) (fun hc2 => ?_) | refine pn_condN rfl (fun hc2 => ?_) (fun hc2 => ?_) | refine pn_cond rfl (fun hc2 => ?_) (fun hc2 => ?_)
      · refine pn_skip ?_
        refine pn_seq ?_
        refine pn_block ?_
        refine pn_seq ?_
        refine pn_plain [] rfl ?_
        refine TE_q rfl rfl (RD.move rfl) rfl ?_
        refine TE_q rfl rfl (RD.assign rfl) rfl ?_
        refine TE_nil0 ?_
        obtain ⟨bx, capx, tlx, rfl⟩ := BldOk.some_of hbz (fun h => by rw [h] at hzl; simp at hzl; omega); have hq9 : ∃ z, zs[i]? = some z := ⟨_, List.getElem?_eq_getElem (by omega)⟩; obtain ⟨z, hz⟩ := hq9
        refine pn_plain [] rfl ?_
        refine TE_q rfl rfl (RD.move rfl) rfl ?_
        refine TE_q rfl rfl (RD.move rfl) rfl ?_
        refine TE_q rfl rfl (RD.indexX (i := i) Tryz.runUnderlying22 Tryz.sizeOf40 (b := bx) (off := 0) (len := l.length) (cap := capx) rfl rfl rfl (by omega)) rfl ?_
        refine TE_q rfl rfl (RD.fieldAddr (o := 0 + i * 52 + 18) Tryz.runUnderlying40 rfl rfl Tryz.sizeOf9 rfl) rfl ?_
        refine TE_setX (i := i) (f := 18) (z := z) (z' := { z with ref := ⟨#[120]⟩ }) (((bs, .cells #[.string (refL l), (bldVx l st1)] 56 (0, 0)) :: ((br, .cells #[.string (refL l), (bldVx l st2)] 89 (0, 0)) :: (bldMx 40 recC l st1 ++ bldMx 40 recC l st2)))) recC_len rfl rfl Tryz.sizeOf9 trivial rfl rfl rfl rfl (by omega) hz (by decide) rfl (hX0 _ List.mem_cons_self) ?_
        refine TE_nil0 ?_
        refine pn_plain [] rfl ?_
        refine TE_q rfl rfl (RD.addI rfl rfl (by omega) (by omega)) rfl ?_
        refine TE_q rfl rfl (RD.move rfl) rfl ?_
        refine TE_nil0 ?_
        (exact pn_againS (i + 1, zs.set i { z with ref := ⟨#[120]⟩ }) ⟨by show i + 1 ≤ _; omega, by show (zs.set i _).length = _; rw [List.length_set]; exact hzl, BldOk.set recC_len hbz i _⟩ (by show l.length - (i + 1) < l.length - i; omega) ⟨rfl, rfl, rfl, rfl, rfl, rfl, trivial⟩ (fun a => by simp -failIfUnchanged <;> omega))
      · refine pn_exit ?_
        refine pn_seq ?_
        refine pn_plain [] rfl ?_
        refine TE_q rfl rfl (RD.move rfl) rfl ?_
        refine TE_q rfl rfl (RD.as (v := .bool false) (RD.neq rfl rfl) (by simp)) rfl ?_
        refine TE_q rfl rfl (RD.move rfl) rfl ?_
        refine TE_isF ?_
        first | (refine TE_s rfl rfl rfl rfl rfl ?_) | (refine TE_gq rfl rfl rfl rfl (RD.move rfl) rfl ?_)
        first | (refine TE_s rfl rfl rfl rfl rfl ?_) | (refine TE_gq rfl rfl rfl rfl (RD.move rfl) rfl ?_)
        first | (refine TE_s rfl rfl rfl rfl rfl ?_) | ((refine TE_call rfl rfl ⟨_, rfl, rfl⟩ Tryz.call13 rfl rfl rfl (fun w hs' => c_s19same bs br (refL l) _ _ (bldMx 40 recC l st1 ++ bldMx 40 recC l st2) l w (loadOk_ne hld) ((hbo1.rdx (u := 40) recC_len).mono (fun _ hw => hw.sp (fun a => by simp -failIfUnchanged <;> omega))) ((hbo2.rdx (u := 40) recC_len).mono (fun _ hw => hw.sp (fun a => by simp -failIfUnchanged <;> omega))) hok (by omega) (hs'.hp.sp (fun a => by simp -failIfUnchanged <;> omega))) ?_; rintro v55 H5 ⟨rfl, rfl⟩ -))
        first | (refine TE_q rfl rfl (RD.pickT rfl rfl) rfl ?_) | (refine TE_q rfl rfl (RD.pickF rfl rfl) rfl ?_)
        refine TE_q rfl rfl (RD.assign rfl) rfl ?_
        refine TE_nil0 ?_
        refine pn_ret ?_
        exact pn_done rfl rfl ⟨rfl, rfl⟩ (List.nil_sublist _) (by simp)
    · refine TE_q rfl rfl (RD.move rfl) rfl ?_
      refine TE_q rfl rfl (RD.extract rfl rfl) rfl ?_
      refine TE_q rfl rfl (RD.extract rfl rfl) rfl ?_
      refine TE_q rfl rfl (RD.assign rfl) rfl ?_
      refine TE_q rfl rfl (RD.assign rfl) rfl ?_
      refine TE_nil0 ?_
      refine pn_seq ?_
      refine pn_plain [] rfl ?_
      refine TE_q rfl rfl (RD.move rfl) rfl ?_
      refine TE_call rfl rfl trivial Tryz.call11 rfl rfl rfl (fun w hs' => c_r19LoadF ((0, g) :: HA) v l w hl hok (by omega) (hs'.hp.sp (fun a => by simp -failIfUnchanged <;> omega)) hld) ?_
      rintro v21 H1 ⟨rfl, rfl⟩ -
      refine TE_q rfl rfl (RD.move rfl) rfl ?_
      refine TE_q rfl rfl (RD.extract rfl rfl) rfl ?_
      refine TE_q rfl rfl (RD.extract rfl rfl) rfl ?_
      refine TE_q rfl rfl (RD.assign rfl) rfl ?_
      refine TE_q rfl rfl (RD.assign rfl) rfl ?_
      refine TE_nil0 ?_
      refine pn_seq ?_
      refine pn_seq ?_
      refine pn_plain [] rfl ?_
      refine TE_q rfl rfl (RD.move rfl) rfl ?_
      refine TE_q rfl rfl (RD.move rfl) rfl ?_
      refine TE_q rfl rfl (RD.as (v := .bool false) (RD.neq rfl rfl) (by simp)) rfl ?_
      refine TE_q rfl rfl (RD.move rfl) rfl ?_
      refine TE_isF ?_
      first | (refine TE_s rfl rfl rfl rfl rfl ?_) | (refine TE_gq rfl rfl rfl rfl (RD.move rfl) rfl ?_)
      first | (refine TE_s rfl rfl rfl rfl rfl ?_) | (refine TE_gq rfl rfl rfl rfl (RD.ptr_eql_nil Tryz.runUnderlying24 rfl rfl) rfl ?_)
      first | (refine TE_s rfl rfl rfl rfl rfl ?_) | (refine TE_gq rfl rfl rfl rfl (RD.move rfl) rfl ?_)
      first | (refine TE_s rfl rfl rfl rfl rfl ?_) | (refine TE_gq rfl rfl rfl rfl (RD.as (v := .bool true) (RD.neq rfl rfl) (by simp)) rfl ?_)
      first | (refine TE_s rfl rfl rfl rfl rfl ?_) | (refine TE_gq rfl rfl rfl rfl (RD.as (v := .bool false) (RD.neq_bool Tryz.runUnderlying4 rfl rfl) (by simp)) rfl ?_)
      first | (refine TE_q rfl rfl (RD.pickT rfl rfl) rfl ?_) | (refine TE_q rfl rfl (RD.pickF rfl rfl) rfl ?_)
      refine TE_q rfl rfl (RD.move rfl) rfl ?_
      refine TE_isF ?_
      first | (refine TE_s rfl rfl rfl rfl rfl ?_) | (refine TE_gq rfl rfl rfl rfl (RD.move rfl) rfl ?_)
      first | (refine TE_s rfl rfl rfl rfl rfl ?_) | (refine TE_gq rfl rfl rfl rfl (RD.move rfl) rfl ?_)
      first | (refine TE_s rfl rfl rfl rfl rfl ?_) | ((refine TE_call rfl rfl ⟨_, rfl, rfl⟩ Tryz.call12 rfl rfl rfl (fun w hs' => c_r12Same (bldMx 40 recC l st0 ++ ((0, g) :: HA)) _ _ l l w ((hbo0.rdx (u := 40) recC_len).mono (fun _ hw => hw.sp (fun a => by simp -failIfUnchanged <;> omega))) (hl.mono (fun _ hw => hw.sp (fun a => by simp -failIfUnchanged <;> omega))) (by omega) (hs'.hp.sp (fun a => by simp -failIfUnchanged <;> omega))) ?_; rintro v37 H13 ⟨rfl, rfl⟩ -; rw [sameLB_self]))
      first | (refine TE_s rfl rfl rfl rfl rfl ?_) | (refine TE_gq rfl rfl rfl rfl (RD.as (v := .bool false) (RD.not rfl) rfl) rfl ?_)
      first | (refine TE_q rfl rfl (RD.pickT rfl rfl) rfl ?_) | (refine TE_q rfl rfl (RD.pickF rfl rfl) rfl ?_)
      refine TE_nil0 ?_
      refine pn_condF rfl ?_
      refine pn_skip ?_
      refine pn_seq ?_
      refine pn_seq ?_
      refine pn_plain [1] rfl ?_
      refine TE_q rfl rfl (RD.move rfl) rfl ?_
      refine TE_q rfl rfl (RD.lenX Tryz.runUnderlying22 rfl (hbo0.rdx (u := 40) recC_len)) rfl ?_
      refine TE_q rfl rfl (RD.move rfl) rfl ?_
      refine TE_nil0 ?_
      refine pn_block ?_
      refine pn_loopS (σ := Nat × List Rec) (fun q => [(42, .int .i64 (q.1 : Int)), (41, .int .i64 l.length), (3, bldVx l st0), (4, .pointer none), (6, .pointer none), (7, .int .i64 190)]) (fun q => bldMx 40 recC q.2 st0 ++ []) (fun q => q.1 ≤ l.length ∧ q.2.length = l.length ∧ BldOk 52 recC q.2 st0) (fun q => l.length - q.1) (0, l) ⟨Nat.zero_le _, rfl, hbo0⟩ ⟨rfl, rfl, rfl, rfl, rfl, rfl, trivial⟩ (fun a => by simp -failIfUnchanged <;> omega) ?_
      rintro ⟨i, zs⟩ ⟨hi, hzl, hbz⟩; dsimp only at hi hzl hbz ⊢
      refine pn_seq ?_
      refine pn_plain [] rfl ?_
      refine TE_q rfl rfl (RD.lss rfl rfl) rfl ?_
      refine TE_nil0 ?_
      refine pn_seq ?_
      first | refine pn_condD rfl (fun hc2 => ?_) (fun hc2 => ?_) | refine pn_condN rfl (fun hc2 => ?_) (fun hc2 => ?_) | refine pn_cond rfl (fun hc2 => ?_) (fun hc2 => ?_)
      · refine pn_skip ?_
        refine pn_seq ?_
        refine pn_block ?_
        refine pn_seq ?_
        refine pn_plain [] rfl ?_
        refine TE_q rfl rfl (RD.move rfl) rfl ?_
        refine TE_q rfl rfl (RD.assign rfl) rfl ?_
        refine TE_nil0 ?_
        obtain ⟨bx, capx, tlx, rfl⟩ := BldOk.some_of hbz (fun h => by rw [h] at hzl; simp at hzl; omega); have hq9 : ∃ z, zs[i]? = some z := ⟨_, List.getElem?_eq_getElem (by omega)⟩; obtain ⟨z, hz⟩ := hq9
        refine pn_plain [] rfl ?_
        refine TE_q rfl rfl (RD.move rfl) rfl ?_
        refine TE_q rfl rfl (RD.move rfl) rfl ?_
        refine TE_q rfl rfl (RD.indexX (i := i) Tryz.runUnderlying22 Tryz.sizeOf40 (b := bx) (off := 0) (len := l.length) (cap := capx) rfl rfl rfl (by omega)) rfl ?_
        refine TE_q rfl rfl (RD.fieldAddr (o := 0 + i * 52 + 18) Tryz.runUnderlying40 rfl rfl Tryz.sizeOf9 rfl) rfl ?_
        refine TE_setX (i := i) (f := 18) (z := z) (z' := { z with ref := ⟨#[120]⟩ }) ([]) recC_len rfl rfl Tryz.sizeOf9 trivial rfl rfl rfl rfl (by omega) hz (by decide) rfl (hX0 _ List.mem_cons_self) ?_
        refine TE_nil0 ?_
        refine pn_plain [] rfl ?_
        refine TE_q rfl rfl (RD.addI rfl rfl (by omega) (by omega)) rfl ?_
        refine TE_q rfl rfl (RD.move rfl) rfl ?_
        refine TE_nil0 ?_
        (exact pn_againS (i + 1, zs.set i { z with ref := ⟨#[120]⟩ }) ⟨by show i + 1 ≤ _; omega, by show (zs.set i _).length = _; rw [List.length_set]; exact hzl, BldOk.set recC_len hbz i _⟩ (by show l.length - (i + 1) < l.length - i; omega) ⟨rfl, rfl, rfl, rfl, rfl, rfl, trivial⟩ (fun a => by simp -failIfUnchanged <;> omega))
      · refine pn_exit ?_
        refine pn_seq ?_
        refine pn_plain [] rfl ?_
        refine TE_q rfl rfl (RD.move rfl) rfl ?_
        refine TE_q rfl rfl (RD.as (v := .bool true) (RD.neq rfl rfl) (by simp)) rfl ?_
        refine TE_q rfl rfl (RD.move rfl) rfl ?_
        refine TE_isT ?_
        first | (refine TE_s rfl rfl rfl rfl rfl ?_) | (refine TE_gq rfl rfl rfl rfl (RD.move rfl) rfl ?_)
        first | (refine TE_s rfl rfl rfl rfl rfl ?_) | (refine TE_gq rfl rfl rfl rfl (RD.move rfl) rfl ?_)
        first | (refine TE_s rfl rfl rfl rfl rfl ?_) | ((refine TE_call rfl rfl ⟨_, rfl, rfl⟩ Tryz.call13 rfl rfl rfl (fun w hs' => c_s19same  w) ?_; rintro v55 H5 ⟨rfl, rfl⟩ -))
        first | (refine TE_q rfl rfl (RD.pickT rfl rfl) rfl ?_) | (refine TE_q rfl rfl (RD.pickF rfl rfl) rfl ?_)
        refine TE_q rfl rfl (RD.assign rfl) rfl ?_
        refine TE_nil0 ?_
        refine pn_ret ?_
        exact pn_done rfl rfl ⟨rfl, rfl⟩ (List.nil_sublist _) (by simp)

end Go.Proofs.YtiefjfcfijcgmaaGreatDoor
