import Derived.Test.YtaakjgmehbbgfaaGreatDoorApf
import Derived.Test.YtaakjgmehbbgfaaGreatDoorSrl
import Derived.Test.YtaakjgmehbbgfaaGreatDoorRowR
namespace Go.Proofs.YtaakjgmehbbgfaaGreatDoor
open Go Go.Mv
set_option maxRecDepth 8000
structure SibOk (L : List Rec) : Prop where
  srt : Srt L
  ok : ∀ x ∈ L, RecOk x
  chk : ∀ x ∈ L, recOkB x = true
  ref : ∀ x ∈ L, x.ref = ⟨#[97]⟩
theorem SibOk.nil : SibOk [] := ⟨List.Pairwise.nil, by simp, by simp, by simp⟩
theorem SibOk.ap {L : List Rec} {r : Rec} (h : SibOk L) (hr : RecOk r) : SibOk (apL ⟨#[97]⟩ L r) :=
  ⟨apL_srt h.srt, fun x hx => by rcases apL_mem hx with h1 | ⟨rfl, _, _⟩; exact h.ok x h1; exact hr, fun x hx => by rcases apL_mem hx with h1 | ⟨rfl, h2, _⟩; exact h.chk x h1; exact h2,
    fun x hx => by rcases apL_mem hx with h1 | ⟨rfl, _, h3⟩; exact h.ref x h1; exact h3⟩
theorem apE_bad {ref : ByteArray} {l : List Rec} {r : Rec} (h : ¬ apE ref l r = 0) : apL ref l r = l := by
  unfold apE at h; unfold apL
  split at h
  · rename_i hb; rw [if_pos hb]
  · exact absurd rfl h
theorem apE_ok {ref : ByteArray} {l : List Rec} {r : Rec} (h : apE ref l r = 0) : badB ref l r = false := by
  unfold apE at h; split at h
  · cases h
  · rename_i hb; simpa using hb
def cntR (l : List Rec) (r : Rec) : Nat := (l.filter fun x => sameRB x r).length
theorem cntR_T {l : List Rec} {r : Rec} {i : Nat} (h : i < l.length) (hp : sameRB (gt l i) r = true) : ((cntR (l.take i) r : Nat) : Int) + 1 = ((cntR (l.take (i + 1)) r : Nat) : Int) := by
  unfold cntR; rw [gt_take h, List.filter_append]; simp [hp]
theorem cntR_F {l : List Rec} {r : Rec} {i : Nat} (h : i < l.length) (hp : sameRB (gt l i) r = false) : ((cntR (l.take i) r : Nat) : Int) = ((cntR (l.take (i + 1)) r : Nat) : Int) := by
  unfold cntR; rw [gt_take h, List.filter_append]; simp [hp]
theorem cntR_le (l : List Rec) (r : Rec) : cntR l r ≤ l.length := List.length_filter_le _ _
theorem cntR_one {l : List Rec} (hs : Srt l) {r : Rec} : cntR l r ≤ 1 ∧ (cntR l r = 1 ↔ ∃ x ∈ l, sameRB x r = true) := by
  have h1 : cntR l r ≤ 1 := by
    unfold cntR
    rcases h : l.filter (fun x => sameRB x r) with _ | ⟨a, _ | ⟨b, t⟩⟩
    · simp
    · simp
    · have ha : a ∈ l.filter (fun x => sameRB x r) := by rw [h]; simp
      have hb : b ∈ l.filter (fun x => sameRB x r) := by rw [h]; simp
      have hp : (l.filter fun x => sameRB x r).Pairwise dlt := hs.sublist List.filter_sublist
      rw [h] at hp
      have hab := dlt_iff.1 ((List.pairwise_cons.1 hp).1 b (by simp))
      have e1 := sameRB_iff.1 (List.mem_filter.1 ha).2
      have e2 := sameRB_iff.1 (List.mem_filter.1 hb).2
      have e3 := e1.s; have e4 := e1.c; have e5 := e2.s; have e6 := e2.c
      omega
  refine ⟨h1, fun h => ?_, fun ⟨x, hx, hp⟩ => ?_⟩
  · have : 0 < (l.filter fun x => sameRB x r).length := by unfold cntR at h; omega
    obtain ⟨x, hx⟩ := List.exists_mem_of_length_pos this
    exact ⟨x, (List.mem_filter.1 hx).1, (List.mem_filter.1 hx).2⟩
  · have : 0 < (l.filter fun x => sameRB x r).length := List.length_pos_of_mem (List.mem_filter.2 ⟨hx, hp⟩)
    unfold cntR at h1 ⊢; omega
/-- P19.5: what is there ahead of a delete stays just if its context has it not. -/
theorem del_law {L : List Rec} {d : Rec} (h : SibOk L) (hb : badB ⟨#[97]⟩ L d = false) (hd : d.ref = ⟨#[97]⟩) (hs : RecOk d) {i : Nat} (hi : i < L.length) :
    (decide (((cntR (apL ⟨#[97]⟩ L d) (gt L i) : Nat) : Int) = 1) == vHas d.ctx (gt L i).s (gt L i).c) = false := by
  have hm := gt_mem hi
  have hsrt := apL_srt (ref := ⟨#[97]⟩) (r := d) h.srt
  have hc := (cntR_one hsrt (r := gt L i))
  have hndot : dotK (gt L i) ≠ dotK d := fun he => by
    have := (List.any_eq_false.1 (Bool.or_eq_false_iff.1 hb).2) _ hm
    simp [he] at this
  have hout : outdoesB d (gt L i) = vHas d.ctx (gt L i).s (gt L i).c := by
    simp [outdoesB, aheadB, hd, h.ref _ hm]
  have key : (∃ x ∈ apL ⟨#[97]⟩ L d, sameRB x (gt L i) = true) ↔ outdoesB d (gt L i) = false := by
    constructor
    · rintro ⟨x, hx, hp⟩
      have hk := sameRB_iff.1 hp
      have hdk : dotK x = dotK (gt L i) := by simp [dotK, hk.s, hk.c]
      have hxs : x ∈ stayL L d ∨ x = d := by
        unfold apL at hx; rw [if_neg (by simp [hb])] at hx
        split at hx
        · exact .inl hx
        · exact insD_mem.1 hx
      rcases hxs with hxs | rfl
      · obtain ⟨h1, h2⟩ := List.mem_filter.1 hxs
        rw [← h.srt.inj h1 hm hdk]; simpa using h2
      · exact absurd hdk.symm hndot
    · intro ho
      refine ⟨gt L i, ?_, sameRB_self _⟩
      have hst : gt L i ∈ stayL L d := List.mem_filter.2 ⟨hm, by simp [ho]⟩
      unfold apL; rw [if_neg (by simp [hb])]
      split
      · exact hst
      · exact insD_mem.2 (.inl hst)
  rw [← hout]
  cases ho : outdoesB d (gt L i) with
  | true =>
    have : ¬ cntR (apL ⟨#[97]⟩ L d) (gt L i) = 1 := fun h1 => by have := key.1 (hc.2.1 h1); rw [ho] at this; cases this
    simp; omega
  | false =>
    have := hc.2.2 (key.2 ho)
    simp [this]
theorem del_tips {L : List Rec} {d : Rec} (hd : d.has = false) : (alL (apL ⟨#[97]⟩ L d)).length ≤ L.length := by
  have hal : ∀ l : List Rec, (alL l).length ≤ l.length := alL_le
  have h2 : (stayL L d).length ≤ L.length := keepL_le _ L
  unfold apL; split
  · exact hal L
  · split
    · exact Nat.le_trans (hal _) h2
    · have := ((insD_perm d (stayL L d)).filter fun x => !(!x.has)).length_eq
      have h3 : (alL (insD d (stayL L d))).length = ((stayL L d ++ [d]).filter fun x => !(!x.has)).length := this
      rw [h3, List.filter_append]
      have h4 := List.length_filter_le (fun x : Rec => !(!x.has)) (stayL L d)
      simp [hd]; simp at h4; omega

theorem c_SibDeletes (lv : Value) (l : List Rec) (d : Rec) (HX : Mem) (g : Obj) (w : World) (hbl : Rdx 52 (recC) ((0, g) :: HX) lv l) (hll : l.length ≤ 9223372036854775807) (hol : ∀ x ∈ l, RecOk x) (hod : RecOk d) (hg : GOk g) (hH : Hp ((0, g) :: HX) w) : Calls Tryz.prog 4 #[lv, recV d] w (Ret w [] fun v H1 => v = .bool true ∧ H1 = []) := by
  refine fn_enter (args := [_, _]) Tryz.func4 rfl Tryz.ntmps4 rfl hH ?_
  refine pn_seq ?_
  refine pn_plain [] rfl ?_
  refine TE_boxC (recV d).cells rfl rfl rfl trivial rfl fun b3 hb3 => ?_
  refine TE_q rfl rfl (RD.assign rfl) rfl ?_
  refine TE_nil0 ?_
  refine pn_seq ?_
  refine pn_plain [] rfl ?_
  refine TE_callG _ [(0, g)] rfl rfl trivial Tryz.call14 rfl rfl rfl (fun w hw => c_alive19 g w hg (hw.sp (fun a => by simp -failIfUnchanged <;> omega))) (fun a => by simp -failIfUnchanged <;> omega) ?_
  rintro v1 H2 ⟨rfl, rfl⟩ -
  refine TE_q rfl rfl (RD.assign rfl) rfl ?_
  refine TE_nil0 ?_
  refine pn_seq ?_
  refine pn_plain [] rfl ?_
  refine TE_callG _ [(0, g)] rfl rfl trivial Tryz.call15 rfl rfl rfl (fun w hw => c_sibNew ⟨#[97]⟩ g w hg (by decide) bk97 (hw.sp (fun a => by simp -failIfUnchanged <;> omega))) (fun a => by simp -failIfUnchanged <;> omega) ?_
  rintro v5 H6 ⟨bs3, rfl, rfl⟩ hX4
  refine TE_sp ((bs3, .cells #[.string ⟨#[97]⟩, .slice none 0 0] 56 (0, 0)) :: (b3, .cells (recV d).cells 40 (0, 0)) :: (0, g) :: HX) (fun a => by simp -failIfUnchanged <;> omega) ?_
  refine TE_q rfl rfl (RD.move rfl) rfl ?_
  refine TE_q rfl rfl (RD.extract rfl rfl) rfl ?_
  refine TE_q rfl rfl (RD.extract rfl rfl) rfl ?_
  refine TE_q rfl rfl (RD.assign rfl) rfl ?_
  refine TE_q rfl rfl (RD.assign rfl) rfl ?_
  refine TE_nil0 ?_
  refine pn_seq ?_
  refine pn_seq ?_
  refine pn_plain [5] rfl ?_
  refine TE_q rfl rfl (RD.move rfl) rfl ?_
  refine TE_callG _ ((0, g) :: HX) rfl rfl trivial Tryz.call9 rfl rfl rfl (fun w hw => c_s19great ((0, g) :: HX) lv l w (hbl.mono (fun _ hw => hw.sp (fun a => by simp -failIfUnchanged <;> omega))) hll (hw.sp (fun a => by simp -failIfUnchanged <;> omega))) (fun a => by simp -failIfUnchanged <;> omega) ?_
  rintro v7 H8 ⟨rfl, rfl⟩ -
  refine TE_q rfl rfl (RD.move rfl) rfl ?_
  refine TE_join (σ := Unit) (fun _ => [(0, lv), (3, .pointer (some ⟨b3, 0, none⟩)), (5, .bool true), (6, .pointer (some ⟨bs3, 0, none⟩)), (39, .bool ((greatR l) || (decide (300 < (d.ref.size : Int)))))]) (fun _ => ((bs3, .cells #[.string ⟨#[97]⟩, .slice none 0 0] 56 (0, 0)) :: (b3, .cells (recV d).cells 40 (0, 0)) :: (0, g) :: HX)) (fun _ => True) ?_ ?_
  · refine TE_bool (fun hf9 => ?_) (fun hf9 => ?_)
    · refine TE_s rfl rfl rfl rfl rfl ?_
      refine TE_s rfl rfl rfl rfl rfl ?_
      refine TE_s rfl rfl rfl rfl rfl ?_
      refine TE_s rfl rfl rfl rfl rfl ?_
      refine TE_q rfl rfl (RD.pickT rfl rfl) rfl ?_
      refine TE_q rfl rfl (RD.move rfl) rfl ?_
      refine TE_s rfl rfl rfl rfl rfl ?_
      refine TE_s rfl rfl rfl rfl rfl ?_
      refine TE_q rfl rfl (RD.pickT rfl rfl) rfl ?_
      refine TE_q rfl rfl (RD.move rfl) rfl ?_
      refine TE_s rfl rfl rfl rfl rfl ?_
      refine TE_s rfl rfl rfl rfl rfl ?_
      refine TE_q rfl rfl (RD.pickT rfl rfl) rfl ?_
      refine TE_nil0 ?_
      exact pn_give () trivial ⟨rfl, rfl, rfl, rfl, congrArg (fun b => some (Value.bool b)) (by simp [hf9]), trivial⟩ (fun _ hw => hw.sp (fun a => by simp -failIfUnchanged <;> omega))
    · refine TE_gq rfl rfl rfl rfl (RD.fieldAddr (o := 18) Tryz.runUnderlying40 rfl rfl Tryz.sizeOf9 rfl) rfl ?_
      refine TE_l rfl rfl ⟨_, rfl, rfl⟩ rfl (RD.load (i := 1) (v := .string d.ref) Tryz.isAgg9 rfl rfl rfl) rfl ?_
      refine TE_gq rfl rfl rfl rfl (RD.len_string Tryz.runUnderlying9 rfl) rfl ?_
      refine TE_gq rfl rfl rfl rfl (RD.gtr rfl rfl) rfl ?_
      refine TE_q rfl rfl (RD.pickF rfl rfl) rfl ?_
      refine TE_q rfl rfl (RD.move rfl) rfl ?_
      refine TE_dec (fun hf10 => ?_) (fun hf10 => ?_)
      · refine TE_s rfl rfl rfl rfl rfl ?_
        refine TE_s rfl rfl rfl rfl rfl ?_
        refine TE_q rfl rfl (RD.pickT rfl rfl) rfl ?_
        refine TE_q rfl rfl (RD.move rfl) rfl ?_
        refine TE_s rfl rfl rfl rfl rfl ?_
        refine TE_s rfl rfl rfl rfl rfl ?_
        refine TE_q rfl rfl (RD.pickT rfl rfl) rfl ?_
        refine TE_nil0 ?_
        exact pn_give () trivial ⟨rfl, rfl, rfl, rfl, congrArg (fun b => some (Value.bool b)) (by simp [hf9, hf10]), trivial⟩ (fun _ hw => hw.sp (fun a => by simp -failIfUnchanged <;> omega))
      · refine TE_gq rfl rfl rfl rfl (RD.move rfl) rfl ?_
        refine TE_gq rfl rfl rfl rfl (RD.as (v := .bool false) (RD.not rfl) rfl) rfl ?_
        refine TE_q rfl rfl (RD.pickF rfl rfl) rfl ?_
        refine TE_q rfl rfl (RD.move rfl) rfl ?_
        refine TE_gq rfl rfl rfl rfl (RD.move rfl) rfl ?_
        refine TE_gq rfl rfl rfl rfl (RD.as (v := .bool false) (RD.neq rfl rfl) rfl) rfl ?_
        refine TE_q rfl rfl (RD.pickF rfl rfl) rfl ?_
        refine TE_nil0 ?_
        exact pn_give () trivial ⟨rfl, rfl, rfl, rfl, congrArg (fun b => some (Value.bool b)) (by simp [hf9, hf10]), trivial⟩ (fun _ hw => hw.sp (fun a => by simp -failIfUnchanged <;> omega))
  rintro _ -
  refine pn_cond rfl (fun hc11 => ?_) (fun hc11 => ?_)
  · simp only [Bool.or_eq_true, decide_eq_true_eq] at hc11
    refine pn_seq ?_
    refine pn_plainG [] [(0, g)] rfl (fun a => by simp -failIfUnchanged <;> omega) ?_
    refine TE_q rfl rfl (RD.move rfl) rfl ?_
    refine TE_q rfl rfl (RD.assign rfl) rfl ?_
    refine TE_nil0 ?_
    refine pn_ret ?_
    exact pn_doneS [] rfl rfl ⟨rfl, rfl⟩ (fun _ => Nat.zero_le _) (fun _ he => nomatch he)
  · simp only [Bool.or_eq_false_iff, decide_eq_false_iff_not] at hc11
    have hgr := greatR_F (l := l) hc11.1
    have hl60 := hgr.1
    refine pn_skip ?_
    refine pn_seq ?_
    refine pn_seq ?_
    refine pn_plain [1] rfl ?_
    refine TE_q rfl rfl (RD.move rfl) rfl ?_
    refine TE_q rfl rfl (RD.lenX Tryz.runUnderlying22 rfl hbl) rfl ?_
    refine TE_q rfl rfl (RD.move rfl) rfl ?_
    refine TE_nil0 ?_
    refine pn_block ?_
    refine pn_loopS (σ := Nat × (List Rec) × SnkS) (fun q => [(3, .pointer (some ⟨b3, 0, none⟩)), (5, .bool true), (6, .pointer (some ⟨bs3, 0, none⟩)), (41, lv), (42, .int .i64 (l.length : Int)), (43, .int .i64 (q.1 : Int))]) (fun q => ((bs3, .cells #[.string ⟨#[97]⟩, bldVx q.2.1 q.2.2] 56 (0, 0)) :: (b3, .cells (recV d).cells 40 (0, 0)) :: (0, g) :: ((bldMx 40 (recC) q.2.1 q.2.2) ++ HX))) (fun q => (q.1 ≤ l.length) ∧ (SibOk q.2.1) ∧ (q.2.1.length ≤ q.1) ∧ (BldOk 52 (recC) q.2.1 q.2.2) ∧ (∀ e ∈ bldMx 40 (recC) q.2.1 q.2.2, w.heap.size ≤ e.1 ∨ e.1 ∈ [])) (fun q => l.length - q.1) (0, [], none) ⟨(by omega), SibOk.nil, (Nat.zero_le _), BldOk.nil, (by intro e he; cases he)⟩ ⟨rfl, rfl, rfl, rfl, rfl, rfl, trivial⟩ (fun a => by simp -failIfUnchanged <;> omega) ?_
    rintro ⟨i, L, sL⟩ ⟨hi, hS, hLl, hbosL, hXsL⟩
    dsimp only at hi hS hLl hbosL hXsL ⊢
    have hRsL : Rdx 52 (recC) (bldMx 40 (recC) L sL) (bldVx L sL) L := hbosL.rdx (u := 40) recC_len
    refine pn_seq ?_
    refine pn_plain [] rfl ?_
    refine TE_q rfl rfl (RD.lss rfl rfl) rfl ?_
    refine TE_nil0 ?_
    refine pn_seq ?_
    refine pn_condD rfl (fun hc12 => ?_) (fun hc12 => ?_)
    · refine pn_skip ?_
      refine pn_seq ?_
      refine pn_block ?_
      refine pn_seq ?_
      refine pn_plain [] rfl ?_
      refine TE_q rfl rfl (RD.idxR (i := i) (o := (i * 52 + 0)) Tryz.runUnderlying22 Tryz.sizeOf40 rfl hbl rfl rfl (by omega) (by rfl)) rfl ?_
      refine TE_l rfl rfl trivial rfl (RD.ldRA (i := i) (j := 0) (vs := (recC (gt l i))) Tryz.isAgg40 Tryz.sizeOf40 rfl hbl (gt_some (by omega)) (by rfl) rfl (fun _ _ hu => by rw [Nat.zero_add]; exact hu) (recC_agg _) (fun _ hw => hw.sp (fun a => by simp -failIfUnchanged <;> omega))) rfl ?_
      refine TE_allocC (recV recZ).cells rfl Tryz.zeroValue40 rfl trivial rfl fun b9 hb9 => ?_
      refine TE_putCW 0 (recV recZ).cells (recV (gt l i)).cells ((b9, .cells (recV (gt l i)).cells 40 (0, 0)) :: (bs3, .cells #[.string ⟨#[97]⟩, bldVx L sL] 56 (0, 0)) :: (b3, .cells (recV d).cells 40 (0, 0)) :: (0, g) :: ((bldMx 40 (recC) L sL) ++ HX)) rfl Tryz.sizeOf40 trivial rfl rfl rfl rfl rfl rfl rfl rfl (.inl hb9) ?_
      refine TE_nil0 ?_
      refine pn_seq ?_
      refine pn_plain [] rfl ?_
      refine TE_q rfl rfl (RD.fieldAddr (o := 18) Tryz.runUnderlying40 rfl rfl Tryz.sizeOf9 rfl) rfl ?_
      refine TE_storeC 0 (recV (gt l i)).cells (recV (⟨(gt l i).s, (gt l i).c, (gt l i).ctx, ⟨#[97]⟩, (gt l i).has, (gt l i).tip⟩ : Rec)).cells ((b9, .cells (recV (⟨(gt l i).s, (gt l i).c, (gt l i).ctx, ⟨#[97]⟩, (gt l i).has, (gt l i).tip⟩ : Rec)).cells 40 (0, 0)) :: (bs3, .cells #[.string ⟨#[97]⟩, bldVx L sL] 56 (0, 0)) :: (b3, .cells (recV d).cells 40 (0, 0)) :: (0, g) :: ((bldMx 40 (recC) L sL) ++ HX)) rfl Tryz.sizeOf9 trivial rfl rfl rfl rfl rfl rfl (put_rec_ref _ _) rfl (.inl hb9) ?_
      refine TE_nil0 ?_
      refine pn_plain [] rfl ?_
      refine TE_q rfl rfl (RD.move rfl) rfl ?_
      refine TE_l rfl rfl trivial rfl (RD.loadA (i := 0) Tryz.isAgg40 Tryz.sizeOf40 rfl rfl (Nat.le_of_ble_eq_true rfl) (rec_all _)) rfl ?_
      refine TE_callM _ ((bs3, .cells #[.string ⟨#[97]⟩, bldVx L sL] 56 (0, 0)) :: (bldMx 40 (recC) L sL)) ((b9, .cells (recV (⟨(gt l i).s, (gt l i).c, (gt l i).ctx, ⟨#[97]⟩, (gt l i).has, (gt l i).tip⟩ : Rec)).cells 40 (0, 0)) :: (b3, .cells (recV d).cells 40 (0, 0)) :: (0, g) :: HX) ((bs3, .cells #[.string ⟨#[97]⟩, bldVx L sL] 56 (0, 0)) :: (0, g) :: (bldMx 40 (recC) L sL)) rfl rfl trivial Tryz.call16 rfl rfl rfl (ownC (.inl (hX4 _ List.mem_cons_self)) hXsL) (fun a => by simp -failIfUnchanged <;> omega) (fun w hw => c_sibApplyF bs3 ⟨#[97]⟩ L sL (⟨(gt l i).s, (gt l i).c, (gt l i).ctx, ⟨#[97]⟩, (gt l i).has, (gt l i).tip⟩ : Rec) g [] w ne97 hbosL hS.ok ⟨((hol _ (gt_mem (by omega)))).s, ((hol _ (gt_mem (by omega)))).c, ((hol _ (gt_mem (by omega)))).ctx, ((hol _ (gt_mem (by omega)))).tip⟩ (by show ByteArray.size ⟨#[97]⟩ < 4294967281; decide) (by first | assumption | omega | (simp; omega)) hg hS.srt (hw.sp (fun a => by simp -failIfUnchanged <;> omega))) (fun a => by simp -failIfUnchanged <;> omega) ?_
      rintro v17 H18 ⟨st13, rfl, hbo14, rfl⟩ hX15
      have hRD16 : Rdx 52 (recC) (bldMx 40 (recC) (apL ⟨#[97]⟩ L (⟨(gt l i).s, (gt l i).c, (gt l i).ctx, ⟨#[97]⟩, (gt l i).has, (gt l i).tip⟩ : Rec)) st13) (bldVx (apL ⟨#[97]⟩ L (⟨(gt l i).s, (gt l i).c, (gt l i).ctx, ⟨#[97]⟩, (gt l i).has, (gt l i).tip⟩ : Rec)) st13) (apL ⟨#[97]⟩ L (⟨(gt l i).s, (gt l i).c, (gt l i).ctx, ⟨#[97]⟩, (gt l i).has, (gt l i).tip⟩ : Rec)) := hbo14.rdx (u := 40) recC_len
      refine TE_sp ((bs3, .cells #[.string ⟨#[97]⟩, bldVx (apL ⟨#[97]⟩ L (⟨(gt l i).s, (gt l i).c, (gt l i).ctx, ⟨#[97]⟩, (gt l i).has, (gt l i).tip⟩ : Rec)) st13] 56 (0, 0)) :: (b9, .cells (recV (⟨(gt l i).s, (gt l i).c, (gt l i).ctx, ⟨#[97]⟩, (gt l i).has, (gt l i).tip⟩ : Rec)).cells 40 (0, 0)) :: (b3, .cells (recV d).cells 40 (0, 0)) :: (0, g) :: ((bldMx 40 (recC) (apL ⟨#[97]⟩ L (⟨(gt l i).s, (gt l i).c, (gt l i).ctx, ⟨#[97]⟩, (gt l i).has, (gt l i).tip⟩ : Rec)) st13) ++ HX)) (fun a => by simp -failIfUnchanged <;> omega) ?_
      refine TE_nil0 ?_
      refine pn_plainG [] ((bs3, .cells #[.string ⟨#[97]⟩, bldVx (apL ⟨#[97]⟩ L (⟨(gt l i).s, (gt l i).c, (gt l i).ctx, ⟨#[97]⟩, (gt l i).has, (gt l i).tip⟩ : Rec)) st13] 56 (0, 0)) :: (b3, .cells (recV d).cells 40 (0, 0)) :: (0, g) :: ((bldMx 40 (recC) (apL ⟨#[97]⟩ L (⟨(gt l i).s, (gt l i).c, (gt l i).ctx, ⟨#[97]⟩, (gt l i).has, (gt l i).tip⟩ : Rec)) st13) ++ HX)) rfl (fun a => by simp -failIfUnchanged <;> omega) ?_
      refine TE_q rfl rfl (RD.addI rfl rfl (by omega) (by omega)) rfl ?_
      refine TE_q rfl rfl (RD.move rfl) rfl ?_
      refine TE_nil0 ?_
      exact pn_againS ((i + 1), (apL ⟨#[97]⟩ L (⟨(gt l i).s, (gt l i).c, (gt l i).ctx, ⟨#[97]⟩, (gt l i).has, (gt l i).tip⟩ : Rec)), st13) ⟨(by omega), (hS.ap (r := (⟨(gt l i).s, (gt l i).c, (gt l i).ctx, ⟨#[97]⟩, (gt l i).has, (gt l i).tip⟩ : Rec)) ⟨((hol _ (gt_mem (by omega)))).s, ((hol _ (gt_mem (by omega)))).c, ((hol _ (gt_mem (by omega)))).ctx, ((hol _ (gt_mem (by omega)))).tip⟩), (Nat.le_trans (apL_len (ref := ⟨#[97]⟩) (l := L) (r := (⟨(gt l i).s, (gt l i).c, (gt l i).ctx, ⟨#[97]⟩, (gt l i).has, (gt l i).tip⟩ : Rec))) (by dsimp only; omega)), hbo14, (fun e he => hX15 e (List.mem_cons_of_mem _ he))⟩ (by dsimp only; omega) ⟨rfl, rfl, rfl, rfl, rfl, rfl, trivial⟩ (fun a => by simp -failIfUnchanged <;> omega)
    · refine pn_exit ?_
      refine pn_seq ?_
      refine pn_plainG [] ((bs3, .cells #[.string ⟨#[97]⟩, bldVx L sL] 56 (0, 0)) :: (b3, .cells (recV d).cells 40 (0, 0)) :: (0, g) :: (bldMx 40 (recC) L sL)) rfl (fun a => by simp -failIfUnchanged <;> omega) ?_
      refine TE_q rfl rfl (RD.build (v := idV (fun _ => 0)) rfl (bd_id0)) rfl ?_
      refine TE_q rfl rfl (RD.fieldAddr (o := 18) Tryz.runUnderlying40 rfl rfl Tryz.sizeOf9 rfl) rfl ?_
      refine TE_storeC 1 (recV d).cells (recV (⟨d.s, d.c, d.ctx, ⟨#[97]⟩, d.has, d.tip⟩ : Rec)).cells ((bs3, .cells #[.string ⟨#[97]⟩, bldVx L sL] 56 (0, 0)) :: (b3, .cells (recV (⟨d.s, d.c, d.ctx, ⟨#[97]⟩, d.has, d.tip⟩ : Rec)).cells 40 (0, 0)) :: (0, g) :: (bldMx 40 (recC) L sL)) rfl Tryz.sizeOf9 trivial rfl rfl rfl rfl rfl rfl (put_rec_ref _ _) rfl (.inl hb3) ?_
      refine TE_q rfl rfl (RD.fieldAddr (o := 19) Tryz.runUnderlying40 rfl rfl Tryz.sizeOf4 rfl) rfl ?_
      refine TE_storeC 1 (recV (⟨d.s, d.c, d.ctx, ⟨#[97]⟩, d.has, d.tip⟩ : Rec)).cells (recV (⟨d.s, d.c, d.ctx, ⟨#[97]⟩, false, d.tip⟩ : Rec)).cells ((bs3, .cells #[.string ⟨#[97]⟩, bldVx L sL] 56 (0, 0)) :: (b3, .cells (recV (⟨d.s, d.c, d.ctx, ⟨#[97]⟩, false, d.tip⟩ : Rec)).cells 40 (0, 0)) :: (0, g) :: (bldMx 40 (recC) L sL)) rfl Tryz.sizeOf4 trivial rfl rfl rfl rfl rfl rfl (put_rec_has _ _) rfl (.inl hb3) ?_
      refine TE_q rfl rfl (RD.fieldAddr (o := 20) Tryz.runUnderlying40 rfl rfl Tryz.sizeOf38 rfl) rfl ?_
      refine TE_putC 1 (recV (⟨d.s, d.c, d.ctx, ⟨#[97]⟩, false, d.tip⟩ : Rec)).cells (recV (⟨d.s, d.c, d.ctx, ⟨#[97]⟩, false, (fun _ => 0)⟩ : Rec)).cells ((bs3, .cells #[.string ⟨#[97]⟩, bldVx L sL] 56 (0, 0)) :: (b3, .cells (recV (⟨d.s, d.c, d.ctx, ⟨#[97]⟩, false, (fun _ => 0)⟩ : Rec)).cells 40 (0, 0)) :: (0, g) :: (bldMx 40 (recC) L sL)) rfl Tryz.sizeOf38 trivial rfl rfl rfl rfl rfl rfl (put_rec_tipV _ _) rfl (.inl hb3) ?_
      refine TE_nil0 ?_
      refine pn_seq ?_
      refine pn_plain [] rfl ?_
      refine TE_q rfl rfl (RD.move rfl) rfl ?_
      refine TE_callG _ ((bs3, .cells #[.string ⟨#[97]⟩, bldVx L sL] 56 (0, 0)) :: (bldMx 40 (recC) L sL)) rfl rfl trivial Tryz.call17 rfl rfl rfl (fun w hw => c_sibAll bs3 ⟨#[97]⟩ (bldVx L sL) (bldMx 40 (recC) L sL) L w ne97 (hRsL.mono (fun _ hw => hw.sp (fun a => by simp -failIfUnchanged <;> omega))) hS.ok (by first | assumption | omega | (simp; omega)) (hw.sp (fun a => by simp -failIfUnchanged <;> omega))) (fun a => by simp -failIfUnchanged <;> omega) ?_
      rintro v23 H24 ⟨st19, hbo20, rfl, rfl⟩ hX21
      have hRD22 : Rdx 52 (recC) (bldMx 40 (recC) L st19) (bldVx L st19) L := hbo20.rdx (u := 40) recC_len
      refine TE_sp ((bs3, .cells #[.string ⟨#[97]⟩, bldVx L sL] 56 (0, 0)) :: (b3, .cells (recV (⟨d.s, d.c, d.ctx, ⟨#[97]⟩, false, (fun _ => 0)⟩ : Rec)).cells 40 (0, 0)) :: (0, g) :: ((bldMx 40 (recC) L st19) ++ (bldMx 40 (recC) L sL))) (fun a => by simp -failIfUnchanged <;> omega) ?_
      refine TE_q rfl rfl (RD.assign rfl) rfl ?_
      refine TE_nil0 ?_
      refine pn_seq ?_
      refine pn_seq ?_
      refine pn_plain [] rfl ?_
      refine TE_q rfl rfl (RD.move rfl) rfl ?_
      refine TE_l rfl rfl trivial rfl (RD.loadA (i := 1) Tryz.isAgg40 Tryz.sizeOf40 rfl rfl (Nat.le_of_ble_eq_true rfl) (rec_all _)) rfl ?_
      refine TE_callM _ ((bs3, .cells #[.string ⟨#[97]⟩, bldVx L sL] 56 (0, 0)) :: (bldMx 40 (recC) L sL)) ((b3, .cells (recV (⟨d.s, d.c, d.ctx, ⟨#[97]⟩, false, (fun _ => 0)⟩ : Rec)).cells 40 (0, 0)) :: (0, g) :: (bldMx 40 (recC) L st19)) ((bs3, .cells #[.string ⟨#[97]⟩, bldVx L sL] 56 (0, 0)) :: (0, g) :: (bldMx 40 (recC) L sL)) rfl rfl trivial Tryz.call16 rfl rfl rfl (ownC (.inl (hX4 _ List.mem_cons_self)) hXsL) (fun a => by simp -failIfUnchanged <;> omega) (fun w hw => c_sibApplyF bs3 ⟨#[97]⟩ L sL (⟨d.s, d.c, d.ctx, ⟨#[97]⟩, false, (fun _ => 0)⟩ : Rec) g [] w ne97 hbosL hS.ok ⟨(hod).s, (hod).c, (hod).ctx, (fun _ => (by show (0 : Int) ≤ 0 ∧ (0 : Int) ≤ 255; decide))⟩ (by show ByteArray.size ⟨#[97]⟩ < 4294967281; decide) (by first | assumption | omega | (simp; omega)) hg hS.srt (hw.sp (fun a => by simp -failIfUnchanged <;> omega))) (fun a => by simp -failIfUnchanged <;> omega) ?_
      rintro v29 H30 ⟨st25, rfl, hbo26, rfl⟩ hX27
      have hRD28 : Rdx 52 (recC) (bldMx 40 (recC) (apL ⟨#[97]⟩ L (⟨d.s, d.c, d.ctx, ⟨#[97]⟩, false, (fun _ => 0)⟩ : Rec)) st25) (bldVx (apL ⟨#[97]⟩ L (⟨d.s, d.c, d.ctx, ⟨#[97]⟩, false, (fun _ => 0)⟩ : Rec)) st25) (apL ⟨#[97]⟩ L (⟨d.s, d.c, d.ctx, ⟨#[97]⟩, false, (fun _ => 0)⟩ : Rec)) := hbo26.rdx (u := 40) recC_len
      refine TE_sp ((bs3, .cells #[.string ⟨#[97]⟩, bldVx (apL ⟨#[97]⟩ L (⟨d.s, d.c, d.ctx, ⟨#[97]⟩, false, (fun _ => 0)⟩ : Rec)) st25] 56 (0, 0)) :: (b3, .cells (recV (⟨d.s, d.c, d.ctx, ⟨#[97]⟩, false, (fun _ => 0)⟩ : Rec)).cells 40 (0, 0)) :: (0, g) :: ((bldMx 40 (recC) (apL ⟨#[97]⟩ L (⟨d.s, d.c, d.ctx, ⟨#[97]⟩, false, (fun _ => 0)⟩ : Rec)) st25) ++ (bldMx 40 (recC) L st19))) (fun a => by simp -failIfUnchanged <;> omega) ?_
      have hL2 : (apL ⟨#[97]⟩ L (⟨d.s, d.c, d.ctx, ⟨#[97]⟩, false, (fun _ => 0)⟩ : Rec)).length ≤ L.length + 1 := apL_len
      refine TE_q rfl rfl (RD.move rfl) rfl ?_
      refine TE_q rfl rfl (RD.extract rfl rfl) rfl ?_
      refine TE_q rfl rfl (RD.extract rfl rfl) rfl ?_
      refine TE_q rfl rfl (RD.assign rfl) rfl ?_
      refine TE_q rfl rfl (RD.assign rfl) rfl ?_
      refine TE_nil0 ?_
      refine pn_seq ?_
      refine pn_plain [] rfl ?_
      refine TE_q rfl rfl (RD.move rfl) rfl ?_
      refine TE_q rfl rfl (RD.neq rfl rfl) rfl ?_
      refine TE_nil0 ?_
      refine pn_condN rfl (fun hc31 => ?_) (fun hc31 => ?_)
      · refine pn_seq ?_
        refine pn_plainG [] ((bs3, .cells #[.string ⟨#[97]⟩, bldVx (apL ⟨#[97]⟩ L (⟨d.s, d.c, d.ctx, ⟨#[97]⟩, false, (fun _ => 0)⟩ : Rec)) st25] 56 (0, 0)) :: (0, g) :: ((bldMx 40 (recC) (apL ⟨#[97]⟩ L (⟨d.s, d.c, d.ctx, ⟨#[97]⟩, false, (fun _ => 0)⟩ : Rec)) st25) ++ (bldMx 40 (recC) L st19))) rfl (fun a => by simp -failIfUnchanged <;> omega) ?_
        refine TE_q rfl rfl (RD.move rfl) rfl ?_
        refine TE_q rfl rfl (RD.move rfl) rfl ?_
        refine TE_gq rfl rfl rfl rfl (RD.move rfl) rfl ?_
        refine TE_callG _ ((bs3, .cells #[.string ⟨#[97]⟩, bldVx (apL ⟨#[97]⟩ L (⟨d.s, d.c, d.ctx, ⟨#[97]⟩, false, (fun _ => 0)⟩ : Rec)) st25] 56 (0, 0)) :: (bldMx 40 (recC) (apL ⟨#[97]⟩ L (⟨d.s, d.c, d.ctx, ⟨#[97]⟩, false, (fun _ => 0)⟩ : Rec)) st25)) rfl rfl ⟨_, rfl, rfl⟩ Tryz.call17 rfl rfl rfl (fun w hw => c_sibAll bs3 ⟨#[97]⟩ (bldVx (apL ⟨#[97]⟩ L (⟨d.s, d.c, d.ctx, ⟨#[97]⟩, false, (fun _ => 0)⟩ : Rec)) st25) (bldMx 40 (recC) (apL ⟨#[97]⟩ L (⟨d.s, d.c, d.ctx, ⟨#[97]⟩, false, (fun _ => 0)⟩ : Rec)) st25) (apL ⟨#[97]⟩ L (⟨d.s, d.c, d.ctx, ⟨#[97]⟩, false, (fun _ => 0)⟩ : Rec)) w ne97 (hRD28.mono (fun _ hw => hw.sp (fun a => by simp -failIfUnchanged <;> omega))) (hS.ap (r := (⟨d.s, d.c, d.ctx, ⟨#[97]⟩, false, (fun _ => 0)⟩ : Rec)) ⟨(hod).s, (hod).c, (hod).ctx, (fun _ => (by show (0 : Int) ≤ 0 ∧ (0 : Int) ≤ 255; decide))⟩).ok (Nat.le_trans apL_len (by omega)) (hw.sp (fun a => by simp -failIfUnchanged <;> omega))) (fun a => by simp -failIfUnchanged <;> omega) ?_
        rintro v36 H37 ⟨st32, hbo33, rfl, rfl⟩ hX34
        have hRD35 : Rdx 52 (recC) (bldMx 40 (recC) (apL ⟨#[97]⟩ L (⟨d.s, d.c, d.ctx, ⟨#[97]⟩, false, (fun _ => 0)⟩ : Rec)) st32) (bldVx (apL ⟨#[97]⟩ L (⟨d.s, d.c, d.ctx, ⟨#[97]⟩, false, (fun _ => 0)⟩ : Rec)) st32) (apL ⟨#[97]⟩ L (⟨d.s, d.c, d.ctx, ⟨#[97]⟩, false, (fun _ => 0)⟩ : Rec)) := hbo33.rdx (u := 40) recC_len
        refine TE_sp ((bs3, .cells #[.string ⟨#[97]⟩, bldVx (apL ⟨#[97]⟩ L (⟨d.s, d.c, d.ctx, ⟨#[97]⟩, false, (fun _ => 0)⟩ : Rec)) st25] 56 (0, 0)) :: (0, g) :: ((bldMx 40 (recC) (apL ⟨#[97]⟩ L (⟨d.s, d.c, d.ctx, ⟨#[97]⟩, false, (fun _ => 0)⟩ : Rec)) st32) ++ ((bldMx 40 (recC) (apL ⟨#[97]⟩ L (⟨d.s, d.c, d.ctx, ⟨#[97]⟩, false, (fun _ => 0)⟩ : Rec)) st25) ++ (bldMx 40 (recC) L st19)))) (fun a => by simp -failIfUnchanged <;> omega) ?_
        refine TE_gq rfl rfl rfl rfl (RD.move rfl) rfl ?_
        refine TE_callG _ ((bldMx 40 (recC) (apL ⟨#[97]⟩ L (⟨d.s, d.c, d.ctx, ⟨#[97]⟩, false, (fun _ => 0)⟩ : Rec)) st32) ++ (bldMx 40 (recC) L st19)) rfl rfl ⟨_, rfl, rfl⟩ Tryz.call12 rfl rfl rfl (fun w hw => (by have h := c_r12Same ((bldMx 40 (recC) (apL ⟨#[97]⟩ L (⟨d.s, d.c, d.ctx, ⟨#[97]⟩, false, (fun _ => 0)⟩ : Rec)) st32) ++ (bldMx 40 (recC) L st19)) (bldVx (apL ⟨#[97]⟩ L (⟨d.s, d.c, d.ctx, ⟨#[97]⟩, false, (fun _ => 0)⟩ : Rec)) st32) (bldVx L st19) (apL ⟨#[97]⟩ L (⟨d.s, d.c, d.ctx, ⟨#[97]⟩, false, (fun _ => 0)⟩ : Rec)) L w (hRD35.mono (fun _ hw => hw.sp (fun a => by simp -failIfUnchanged <;> omega))) (hRD22.mono (fun _ hw => hw.sp (fun a => by simp -failIfUnchanged <;> omega))) (Nat.le_trans apL_len (by omega)) (hw.sp (fun a => by simp -failIfUnchanged <;> omega)); rw [show (sameLB (apL ⟨#[97]⟩ L (⟨d.s, d.c, d.ctx, ⟨#[97]⟩, false, (fun _ => 0)⟩ : Rec)) L) = true from (by rw [apE_bad (by assumption)]; exact sameLB_self _)] at h; exact h)) (fun a => by simp -failIfUnchanged <;> omega) ?_
        rintro v38 H39 ⟨rfl, rfl⟩ -
        refine TE_q rfl rfl (RD.pickT rfl rfl) rfl ?_
        refine TE_q rfl rfl (RD.assign rfl) rfl ?_
        refine TE_nil0 ?_
        refine pn_ret ?_
        exact pn_doneS [] rfl rfl ⟨rfl, rfl⟩ (fun _ => Nat.zero_le _) (fun _ he => nomatch he)
      · refine pn_skip ?_
        refine pn_seq ?_
        refine pn_plain [] rfl ?_
        refine TE_q rfl rfl (RD.move rfl) rfl ?_
        refine TE_callG _ ((bs3, .cells #[.string ⟨#[97]⟩, bldVx (apL ⟨#[97]⟩ L (⟨d.s, d.c, d.ctx, ⟨#[97]⟩, false, (fun _ => 0)⟩ : Rec)) st25] 56 (0, 0)) :: (bldMx 40 (recC) (apL ⟨#[97]⟩ L (⟨d.s, d.c, d.ctx, ⟨#[97]⟩, false, (fun _ => 0)⟩ : Rec)) st25)) rfl rfl trivial Tryz.call17 rfl rfl rfl (fun w hw => c_sibAll bs3 ⟨#[97]⟩ (bldVx (apL ⟨#[97]⟩ L (⟨d.s, d.c, d.ctx, ⟨#[97]⟩, false, (fun _ => 0)⟩ : Rec)) st25) (bldMx 40 (recC) (apL ⟨#[97]⟩ L (⟨d.s, d.c, d.ctx, ⟨#[97]⟩, false, (fun _ => 0)⟩ : Rec)) st25) (apL ⟨#[97]⟩ L (⟨d.s, d.c, d.ctx, ⟨#[97]⟩, false, (fun _ => 0)⟩ : Rec)) w ne97 (hRD28.mono (fun _ hw => hw.sp (fun a => by simp -failIfUnchanged <;> omega))) (hS.ap (r := (⟨d.s, d.c, d.ctx, ⟨#[97]⟩, false, (fun _ => 0)⟩ : Rec)) ⟨(hod).s, (hod).c, (hod).ctx, (fun _ => (by show (0 : Int) ≤ 0 ∧ (0 : Int) ≤ 255; decide))⟩).ok (Nat.le_trans apL_len (by omega)) (hw.sp (fun a => by simp -failIfUnchanged <;> omega))) (fun a => by simp -failIfUnchanged <;> omega) ?_
        rintro v44 H45 ⟨st40, hbo41, rfl, rfl⟩ hX42
        have hRD43 : Rdx 52 (recC) (bldMx 40 (recC) (apL ⟨#[97]⟩ L (⟨d.s, d.c, d.ctx, ⟨#[97]⟩, false, (fun _ => 0)⟩ : Rec)) st40) (bldVx (apL ⟨#[97]⟩ L (⟨d.s, d.c, d.ctx, ⟨#[97]⟩, false, (fun _ => 0)⟩ : Rec)) st40) (apL ⟨#[97]⟩ L (⟨d.s, d.c, d.ctx, ⟨#[97]⟩, false, (fun _ => 0)⟩ : Rec)) := hbo41.rdx (u := 40) recC_len
        refine TE_sp ((bs3, .cells #[.string ⟨#[97]⟩, bldVx (apL ⟨#[97]⟩ L (⟨d.s, d.c, d.ctx, ⟨#[97]⟩, false, (fun _ => 0)⟩ : Rec)) st25] 56 (0, 0)) :: (b3, .cells (recV (⟨d.s, d.c, d.ctx, ⟨#[97]⟩, false, (fun _ => 0)⟩ : Rec)).cells 40 (0, 0)) :: (0, g) :: ((bldMx 40 (recC) (apL ⟨#[97]⟩ L (⟨d.s, d.c, d.ctx, ⟨#[97]⟩, false, (fun _ => 0)⟩ : Rec)) st40) ++ ((bldMx 40 (recC) (apL ⟨#[97]⟩ L (⟨d.s, d.c, d.ctx, ⟨#[97]⟩, false, (fun _ => 0)⟩ : Rec)) st25) ++ (bldMx 40 (recC) L st19)))) (fun a => by simp -failIfUnchanged <;> omega) ?_
        refine TE_q rfl rfl (RD.assign rfl) rfl ?_
        refine TE_nil0 ?_
        refine pn_seq ?_
        refine pn_seq ?_
        refine pn_plain [1] rfl ?_
        refine TE_q rfl rfl (RD.move rfl) rfl ?_
        refine TE_q rfl rfl (RD.lenX Tryz.runUnderlying22 rfl hRD22) rfl ?_
        refine TE_q rfl rfl (RD.move rfl) rfl ?_
        refine TE_nil0 ?_
        refine pn_block ?_
        refine pn_loopS (σ := Nat) (fun q => [(3, .pointer (some ⟨b3, 0, none⟩)), (5, .bool true), (6, .pointer (some ⟨bs3, 0, none⟩)), (10, bldVx L st19), (13, bldVx (apL ⟨#[97]⟩ L (⟨d.s, d.c, d.ctx, ⟨#[97]⟩, false, (fun _ => 0)⟩ : Rec)) st40), (75, bldVx L st19), (76, .int .i64 (L.length : Int)), (77, .int .i64 (q : Int))]) (fun q => ((bs3, .cells #[.string ⟨#[97]⟩, bldVx (apL ⟨#[97]⟩ L (⟨d.s, d.c, d.ctx, ⟨#[97]⟩, false, (fun _ => 0)⟩ : Rec)) st25] 56 (0, 0)) :: (b3, .cells (recV (⟨d.s, d.c, d.ctx, ⟨#[97]⟩, false, (fun _ => 0)⟩ : Rec)).cells 40 (0, 0)) :: (0, g) :: ((bldMx 40 (recC) (apL ⟨#[97]⟩ L (⟨d.s, d.c, d.ctx, ⟨#[97]⟩, false, (fun _ => 0)⟩ : Rec)) st40) ++ ((bldMx 40 (recC) (apL ⟨#[97]⟩ L (⟨d.s, d.c, d.ctx, ⟨#[97]⟩, false, (fun _ => 0)⟩ : Rec)) st25) ++ (bldMx 40 (recC) L st19))))) (fun q => (q ≤ L.length)) (fun q => L.length - q) 0 (by omega) ⟨rfl, rfl, rfl, rfl, rfl, rfl, rfl, rfl, trivial⟩ (fun a => by simp -failIfUnchanged <;> omega) ?_
        rintro i hi
        refine pn_seq ?_
        refine pn_plain [] rfl ?_
        refine TE_q rfl rfl (RD.lss rfl rfl) rfl ?_
        refine TE_nil0 ?_
        refine pn_seq ?_
        refine pn_condD rfl (fun hc46 => ?_) (fun hc46 => ?_)
        · refine pn_skip ?_
          refine pn_seq ?_
          refine pn_block ?_
          refine pn_seq ?_
          refine pn_plain [] rfl ?_
          refine TE_q rfl rfl (RD.idxR (i := i) (o := (i * 52 + 0)) Tryz.runUnderlying22 Tryz.sizeOf40 rfl hRD22 rfl rfl (by omega) (by rfl)) rfl ?_
          refine TE_l rfl rfl trivial rfl (RD.ldRA (i := i) (j := 0) (vs := (recC (gt L i))) Tryz.isAgg40 Tryz.sizeOf40 rfl hRD22 (gt_some (by omega)) (by rfl) rfl (fun _ _ hu => by rw [Nat.zero_add]; exact hu) (recC_agg _) (fun _ hw => hw.sp (fun a => by simp -failIfUnchanged <;> omega))) rfl ?_
          refine TE_allocC (recV recZ).cells rfl Tryz.zeroValue40 rfl trivial rfl fun b15 hb15 => ?_
          refine TE_putCW 0 (recV recZ).cells (recV (gt L i)).cells ((b15, .cells (recV (gt L i)).cells 40 (0, 0)) :: (bs3, .cells #[.string ⟨#[97]⟩, bldVx (apL ⟨#[97]⟩ L (⟨d.s, d.c, d.ctx, ⟨#[97]⟩, false, (fun _ => 0)⟩ : Rec)) st25] 56 (0, 0)) :: (b3, .cells (recV (⟨d.s, d.c, d.ctx, ⟨#[97]⟩, false, (fun _ => 0)⟩ : Rec)).cells 40 (0, 0)) :: (0, g) :: ((bldMx 40 (recC) (apL ⟨#[97]⟩ L (⟨d.s, d.c, d.ctx, ⟨#[97]⟩, false, (fun _ => 0)⟩ : Rec)) st40) ++ ((bldMx 40 (recC) (apL ⟨#[97]⟩ L (⟨d.s, d.c, d.ctx, ⟨#[97]⟩, false, (fun _ => 0)⟩ : Rec)) st25) ++ (bldMx 40 (recC) L st19)))) rfl Tryz.sizeOf40 trivial rfl rfl rfl rfl rfl rfl rfl rfl (.inl hb15) ?_
          refine TE_nil0 ?_
          refine pn_seq ?_
          refine pn_plain [] rfl ?_
          refine TE_q rfl rfl (RD.assign rfl) rfl ?_
          refine TE_nil0 ?_
          refine pn_seq ?_
          refine pn_seq ?_
          refine pn_plain [1] rfl ?_
          refine TE_q rfl rfl (RD.move rfl) rfl ?_
          refine TE_q rfl rfl (RD.lenX Tryz.runUnderlying22 rfl hRD43) rfl ?_
          refine TE_q rfl rfl (RD.move rfl) rfl ?_
          refine TE_nil0 ?_
          refine pn_block ?_
          refine pn_loopS (σ := Nat) (fun q => [(3, .pointer (some ⟨b3, 0, none⟩)), (5, .bool true), (6, .pointer (some ⟨bs3, 0, none⟩)), (10, bldVx L st19), (13, bldVx (apL ⟨#[97]⟩ L (⟨d.s, d.c, d.ctx, ⟨#[97]⟩, false, (fun _ => 0)⟩ : Rec)) st40), (15, .pointer (some ⟨b15, 0, none⟩)), (75, bldVx L st19), (76, .int .i64 (L.length : Int)), (77, .int .i64 (i : Int)), (81, bldVx (apL ⟨#[97]⟩ L (⟨d.s, d.c, d.ctx, ⟨#[97]⟩, false, (fun _ => 0)⟩ : Rec)) st40), (82, .int .i64 ((apL ⟨#[97]⟩ L (⟨d.s, d.c, d.ctx, ⟨#[97]⟩, false, (fun _ => 0)⟩ : Rec)).length : Int)), (16, .int .i64 ((cntR ((apL ⟨#[97]⟩ L (⟨d.s, d.c, d.ctx, ⟨#[97]⟩, false, (fun _ => 0)⟩ : Rec)).take q) (gt L i) : Nat) : Int)), (83, .int .i64 (q : Int))]) (fun q => ((b15, .cells (recV (gt L i)).cells 40 (0, 0)) :: (bs3, .cells #[.string ⟨#[97]⟩, bldVx (apL ⟨#[97]⟩ L (⟨d.s, d.c, d.ctx, ⟨#[97]⟩, false, (fun _ => 0)⟩ : Rec)) st25] 56 (0, 0)) :: (b3, .cells (recV (⟨d.s, d.c, d.ctx, ⟨#[97]⟩, false, (fun _ => 0)⟩ : Rec)).cells 40 (0, 0)) :: (0, g) :: ((bldMx 40 (recC) (apL ⟨#[97]⟩ L (⟨d.s, d.c, d.ctx, ⟨#[97]⟩, false, (fun _ => 0)⟩ : Rec)) st40) ++ ((bldMx 40 (recC) (apL ⟨#[97]⟩ L (⟨d.s, d.c, d.ctx, ⟨#[97]⟩, false, (fun _ => 0)⟩ : Rec)) st25) ++ (bldMx 40 (recC) L st19))))) (fun q => (q ≤ (apL ⟨#[97]⟩ L (⟨d.s, d.c, d.ctx, ⟨#[97]⟩, false, (fun _ => 0)⟩ : Rec)).length)) (fun q => (apL ⟨#[97]⟩ L (⟨d.s, d.c, d.ctx, ⟨#[97]⟩, false, (fun _ => 0)⟩ : Rec)).length - q) 0 (by omega) ⟨rfl, rfl, rfl, rfl, rfl, rfl, rfl, rfl, rfl, rfl, rfl, rfl, rfl, trivial⟩ (fun a => by simp -failIfUnchanged <;> omega) ?_
          rintro k hk
          have hcl := cntR_le ((apL ⟨#[97]⟩ L (⟨d.s, d.c, d.ctx, ⟨#[97]⟩, false, (fun _ => 0)⟩ : Rec)).take k) (gt L i)
          rw [List.length_take] at hcl
          refine pn_seq ?_
          refine pn_plain [] rfl ?_
          refine TE_q rfl rfl (RD.lss rfl rfl) rfl ?_
          refine TE_nil0 ?_
          refine pn_seq ?_
          refine pn_condD rfl (fun hc47 => ?_) (fun hc47 => ?_)
          · refine pn_skip ?_
            refine pn_seq ?_
            refine pn_block ?_
            refine pn_seq ?_
            refine pn_plain [] rfl ?_
            refine TE_q rfl rfl (RD.idxR (i := k) (o := (k * 52 + 0)) Tryz.runUnderlying22 Tryz.sizeOf40 rfl hRD43 rfl rfl (by omega) (by rfl)) rfl ?_
            refine TE_l rfl rfl trivial rfl (RD.ldRA (i := k) (j := 0) (vs := (recC (gt (apL ⟨#[97]⟩ L (⟨d.s, d.c, d.ctx, ⟨#[97]⟩, false, (fun _ => 0)⟩ : Rec)) k))) Tryz.isAgg40 Tryz.sizeOf40 rfl hRD43 (gt_some (by omega)) (by rfl) rfl (fun _ _ hu => by rw [Nat.zero_add]; exact hu) (recC_agg _) (fun _ hw => hw.sp (fun a => by simp -failIfUnchanged <;> omega))) rfl ?_
            refine TE_allocC (recV recZ).cells rfl Tryz.zeroValue40 rfl trivial rfl fun b18 hb18 => ?_
            refine TE_putCW 0 (recV recZ).cells (recV (gt (apL ⟨#[97]⟩ L (⟨d.s, d.c, d.ctx, ⟨#[97]⟩, false, (fun _ => 0)⟩ : Rec)) k)).cells ((b18, .cells (recV (gt (apL ⟨#[97]⟩ L (⟨d.s, d.c, d.ctx, ⟨#[97]⟩, false, (fun _ => 0)⟩ : Rec)) k)).cells 40 (0, 0)) :: (b15, .cells (recV (gt L i)).cells 40 (0, 0)) :: (bs3, .cells #[.string ⟨#[97]⟩, bldVx (apL ⟨#[97]⟩ L (⟨d.s, d.c, d.ctx, ⟨#[97]⟩, false, (fun _ => 0)⟩ : Rec)) st25] 56 (0, 0)) :: (b3, .cells (recV (⟨d.s, d.c, d.ctx, ⟨#[97]⟩, false, (fun _ => 0)⟩ : Rec)).cells 40 (0, 0)) :: (0, g) :: ((bldMx 40 (recC) (apL ⟨#[97]⟩ L (⟨d.s, d.c, d.ctx, ⟨#[97]⟩, false, (fun _ => 0)⟩ : Rec)) st40) ++ ((bldMx 40 (recC) (apL ⟨#[97]⟩ L (⟨d.s, d.c, d.ctx, ⟨#[97]⟩, false, (fun _ => 0)⟩ : Rec)) st25) ++ (bldMx 40 (recC) L st19)))) rfl Tryz.sizeOf40 trivial rfl rfl rfl rfl rfl rfl rfl rfl (.inl hb18) ?_
            refine TE_nil0 ?_
            refine pn_seq ?_
            refine pn_plain [] rfl ?_
            refine TE_l rfl rfl trivial rfl (RD.loadA (i := 0) Tryz.isAgg40 Tryz.sizeOf40 rfl rfl (Nat.le_of_ble_eq_true rfl) (rec_all _)) rfl ?_
            refine TE_l rfl rfl trivial rfl (RD.loadA (i := 1) Tryz.isAgg40 Tryz.sizeOf40 rfl rfl (Nat.le_of_ble_eq_true rfl) (rec_all _)) rfl ?_
            refine TE_q rfl rfl (RD.eql_agg Tryz.eqGuardType40 (eq_rec (gt (apL ⟨#[97]⟩ L (⟨d.s, d.c, d.ctx, ⟨#[97]⟩, false, (fun _ => 0)⟩ : Rec)) k) (gt L i)) rfl rfl) rfl ?_
            refine TE_nil0 ?_
            refine pn_cond rfl (fun hc48 => ?_) (fun hc48 => ?_)
            · refine pn_plainG [] ((b15, .cells (recV (gt L i)).cells 40 (0, 0)) :: (bs3, .cells #[.string ⟨#[97]⟩, bldVx (apL ⟨#[97]⟩ L (⟨d.s, d.c, d.ctx, ⟨#[97]⟩, false, (fun _ => 0)⟩ : Rec)) st25] 56 (0, 0)) :: (b3, .cells (recV (⟨d.s, d.c, d.ctx, ⟨#[97]⟩, false, (fun _ => 0)⟩ : Rec)).cells 40 (0, 0)) :: (0, g) :: ((bldMx 40 (recC) (apL ⟨#[97]⟩ L (⟨d.s, d.c, d.ctx, ⟨#[97]⟩, false, (fun _ => 0)⟩ : Rec)) st40) ++ ((bldMx 40 (recC) (apL ⟨#[97]⟩ L (⟨d.s, d.c, d.ctx, ⟨#[97]⟩, false, (fun _ => 0)⟩ : Rec)) st25) ++ (bldMx 40 (recC) L st19)))) rfl (fun a => by simp -failIfUnchanged <;> omega) ?_
              refine TE_q rfl rfl (RD.move rfl) rfl ?_
              refine TE_q rfl rfl (RD.addI rfl rfl (by omega) (by omega)) rfl ?_
              refine TE_q rfl rfl (RD.assign rfl) rfl ?_
              refine TE_nil0 ?_
              refine pn_plain [] rfl ?_
              refine TE_q rfl rfl (RD.addI rfl rfl (by omega) (by omega)) rfl ?_
              refine TE_q rfl rfl (RD.move rfl) rfl ?_
              refine TE_nil0 ?_
              have he49 : (((cntR ((apL ⟨#[97]⟩ L (⟨d.s, d.c, d.ctx, ⟨#[97]⟩, false, (fun _ => 0)⟩ : Rec)).take k) (gt L i) : Nat) : Int) + 1) = ((cntR ((apL ⟨#[97]⟩ L (⟨d.s, d.c, d.ctx, ⟨#[97]⟩, false, (fun _ => 0)⟩ : Rec)).take (k + 1)) (gt L i) : Nat) : Int) := (by first | exact cntR_T (by omega) (by assumption) | exact cntR_F (by omega) (by assumption))
              exact pn_againS (k + 1) (by omega) (by omega) ⟨rfl, rfl, rfl, rfl, rfl, rfl, rfl, rfl, rfl, rfl, rfl, (congrArg (fun z => some (Value.int .i64 z)) he49), rfl, trivial⟩ (fun a => by simp -failIfUnchanged <;> omega)
            · refine pn_skip ?_
              refine pn_plainG [] ((b15, .cells (recV (gt L i)).cells 40 (0, 0)) :: (bs3, .cells #[.string ⟨#[97]⟩, bldVx (apL ⟨#[97]⟩ L (⟨d.s, d.c, d.ctx, ⟨#[97]⟩, false, (fun _ => 0)⟩ : Rec)) st25] 56 (0, 0)) :: (b3, .cells (recV (⟨d.s, d.c, d.ctx, ⟨#[97]⟩, false, (fun _ => 0)⟩ : Rec)).cells 40 (0, 0)) :: (0, g) :: ((bldMx 40 (recC) (apL ⟨#[97]⟩ L (⟨d.s, d.c, d.ctx, ⟨#[97]⟩, false, (fun _ => 0)⟩ : Rec)) st40) ++ ((bldMx 40 (recC) (apL ⟨#[97]⟩ L (⟨d.s, d.c, d.ctx, ⟨#[97]⟩, false, (fun _ => 0)⟩ : Rec)) st25) ++ (bldMx 40 (recC) L st19)))) rfl (fun a => by simp -failIfUnchanged <;> omega) ?_
              refine TE_q rfl rfl (RD.addI rfl rfl (by omega) (by omega)) rfl ?_
              refine TE_q rfl rfl (RD.move rfl) rfl ?_
              refine TE_nil0 ?_
              have he50 : ((cntR ((apL ⟨#[97]⟩ L (⟨d.s, d.c, d.ctx, ⟨#[97]⟩, false, (fun _ => 0)⟩ : Rec)).take k) (gt L i) : Nat) : Int) = ((cntR ((apL ⟨#[97]⟩ L (⟨d.s, d.c, d.ctx, ⟨#[97]⟩, false, (fun _ => 0)⟩ : Rec)).take (k + 1)) (gt L i) : Nat) : Int) := (by first | exact cntR_T (by omega) (by assumption) | exact cntR_F (by omega) (by assumption))
              exact pn_againS (k + 1) (by omega) (by omega) ⟨rfl, rfl, rfl, rfl, rfl, rfl, rfl, rfl, rfl, rfl, rfl, (congrArg (fun z => some (Value.int .i64 z)) he50), rfl, trivial⟩ (fun a => by simp -failIfUnchanged <;> omega)
          · refine pn_exit ?_
            refine pn_seq ?_
            refine pn_plain [] rfl ?_
            refine TE_q rfl rfl (RD.move rfl) rfl ?_
            refine TE_q rfl rfl (RD.eql rfl rfl) rfl ?_
            refine TE_q rfl rfl (RD.fieldAddr (o := 2) Tryz.runUnderlying40 rfl rfl Tryz.sizeOf36 rfl) rfl ?_
            refine TE_l rfl rfl trivial rfl (RD.loadA (i := 2) (v := vecV d.ctx) Tryz.isAgg36 Tryz.sizeOf36 rfl rfl (Nat.le_of_ble_eq_true rfl) (rec_ctx' _)) rfl ?_
            refine TE_q rfl rfl (RD.fieldAddr (o := 0) Tryz.runUnderlying40 rfl rfl Tryz.sizeOf33 rfl) rfl ?_
            refine TE_l rfl rfl trivial rfl (RD.loadA (i := 0) (v := dotV ((gt L i).s) ((gt L i).c)) Tryz.isAgg33 Tryz.sizeOf33 rfl rfl (Nat.le_of_ble_eq_true rfl) (rec_dot _)) rfl ?_
            refine TE_callG _ [] rfl rfl trivial Tryz.call18 rfl rfl rfl (fun w hw => c_vecHas d.ctx ((gt L i).s) ((gt L i).c) w hod.ctx) (fun a => by simp -failIfUnchanged <;> omega) ?_
            rintro v51 H52 ⟨rfl, rfl⟩ -
            refine TE_q rfl rfl (RD.eql_bool Tryz.runUnderlying4 rfl rfl) rfl ?_
            refine TE_nil0 ?_
            refine pn_cond rfl (fun hc53 => ?_) (fun hc53 => ?_)
            · exfalso
              obtain rfl : k = (apL ⟨#[97]⟩ L (⟨d.s, d.c, d.ctx, ⟨#[97]⟩, false, (fun _ => 0)⟩ : Rec)).length := (by omega); rw [List.take_length] at hc53; exact Bool.noConfusion ((hc53).symm.trans (del_law (d := (⟨d.s, d.c, d.ctx, ⟨#[97]⟩, false, (fun _ => 0)⟩ : Rec)) hS (apE_ok (by assumption)) rfl ⟨hod.s, hod.c, hod.ctx, fun _ => (by show (0 : Int) ≤ 0 ∧ (0 : Int) ≤ 255; decide)⟩ (by omega)))
            · refine pn_skip ?_
              refine pn_plainG [] ((bs3, .cells #[.string ⟨#[97]⟩, bldVx (apL ⟨#[97]⟩ L (⟨d.s, d.c, d.ctx, ⟨#[97]⟩, false, (fun _ => 0)⟩ : Rec)) st25] 56 (0, 0)) :: (b3, .cells (recV (⟨d.s, d.c, d.ctx, ⟨#[97]⟩, false, (fun _ => 0)⟩ : Rec)).cells 40 (0, 0)) :: (0, g) :: ((bldMx 40 (recC) (apL ⟨#[97]⟩ L (⟨d.s, d.c, d.ctx, ⟨#[97]⟩, false, (fun _ => 0)⟩ : Rec)) st40) ++ ((bldMx 40 (recC) (apL ⟨#[97]⟩ L (⟨d.s, d.c, d.ctx, ⟨#[97]⟩, false, (fun _ => 0)⟩ : Rec)) st25) ++ (bldMx 40 (recC) L st19)))) rfl (fun a => by simp -failIfUnchanged <;> omega) ?_
              refine TE_q rfl rfl (RD.addI rfl rfl (by omega) (by omega)) rfl ?_
              refine TE_q rfl rfl (RD.move rfl) rfl ?_
              refine TE_nil0 ?_
              exact pn_againS (i + 1) (by omega) (by omega) ⟨rfl, rfl, rfl, rfl, rfl, rfl, rfl, rfl, trivial⟩ (fun a => by simp -failIfUnchanged <;> omega)
        · refine pn_exit ?_
          refine pn_seq ?_
          refine pn_plainG [4, 6] ((bs3, .cells #[.string ⟨#[97]⟩, bldVx (apL ⟨#[97]⟩ L (⟨d.s, d.c, d.ctx, ⟨#[97]⟩, false, (fun _ => 0)⟩ : Rec)) st25] 56 (0, 0)) :: (0, g) :: ((bldMx 40 (recC) (apL ⟨#[97]⟩ L (⟨d.s, d.c, d.ctx, ⟨#[97]⟩, false, (fun _ => 0)⟩ : Rec)) st25) ++ (bldMx 40 (recC) L st19))) rfl (fun a => by simp -failIfUnchanged <;> omega) ?_
          refine TE_q rfl rfl (RD.move rfl) rfl ?_
          refine TE_q rfl rfl (RD.move rfl) rfl ?_
          refine TE_gq rfl rfl rfl rfl (RD.move rfl) rfl ?_
          refine TE_callG _ ((bs3, .cells #[.string ⟨#[97]⟩, bldVx (apL ⟨#[97]⟩ L (⟨d.s, d.c, d.ctx, ⟨#[97]⟩, false, (fun _ => 0)⟩ : Rec)) st25] 56 (0, 0)) :: (bldMx 40 (recC) (apL ⟨#[97]⟩ L (⟨d.s, d.c, d.ctx, ⟨#[97]⟩, false, (fun _ => 0)⟩ : Rec)) st25)) rfl rfl ⟨_, rfl, rfl⟩ Tryz.call19 rfl rfl rfl (fun w hw => c_sibTips bs3 ⟨#[97]⟩ (bldVx (apL ⟨#[97]⟩ L (⟨d.s, d.c, d.ctx, ⟨#[97]⟩, false, (fun _ => 0)⟩ : Rec)) st25) (bldMx 40 (recC) (apL ⟨#[97]⟩ L (⟨d.s, d.c, d.ctx, ⟨#[97]⟩, false, (fun _ => 0)⟩ : Rec)) st25) (apL ⟨#[97]⟩ L (⟨d.s, d.c, d.ctx, ⟨#[97]⟩, false, (fun _ => 0)⟩ : Rec)) w ne97 (hRD28.mono (fun _ hw => hw.sp (fun a => by simp -failIfUnchanged <;> omega))) (hS.ap (r := (⟨d.s, d.c, d.ctx, ⟨#[97]⟩, false, (fun _ => 0)⟩ : Rec)) ⟨(hod).s, (hod).c, (hod).ctx, (fun _ => (by show (0 : Int) ≤ 0 ∧ (0 : Int) ≤ 255; decide))⟩).ok (Nat.le_trans apL_len (by omega)) (hw.sp (fun a => by simp -failIfUnchanged <;> omega))) (fun a => by simp -failIfUnchanged <;> omega) ?_
          rintro v61 H62 ⟨ts54, st56, hset55, hbo57, rfl, rfl⟩ hX58
          have hRD59 : Rdx 32 (idC) (bldMx 38 (idC) ts54 st56) (bldVx ts54 st56) ts54 := hbo57.rdx (u := 38) idC_len
          have hln60 : ts54.length ≤ ((apL ⟨#[97]⟩ L (⟨d.s, d.c, d.ctx, ⟨#[97]⟩, false, (fun _ => 0)⟩ : Rec))).length := by have h := setOf_len hset55; rw [tipsL_len] at h; have h2 := alL_le ((apL ⟨#[97]⟩ L (⟨d.s, d.c, d.ctx, ⟨#[97]⟩, false, (fun _ => 0)⟩ : Rec))); omega
          have hahln60 : ts54.length ≤ (alL (apL ⟨#[97]⟩ L (⟨d.s, d.c, d.ctx, ⟨#[97]⟩, false, (fun _ => 0)⟩ : Rec))).length := by have h := setOf_len hset55; rw [tipsL_len] at h; exact h
          refine TE_sp ((bs3, .cells #[.string ⟨#[97]⟩, bldVx (apL ⟨#[97]⟩ L (⟨d.s, d.c, d.ctx, ⟨#[97]⟩, false, (fun _ => 0)⟩ : Rec)) st25] 56 (0, 0)) :: (0, g) :: ((bldMx 38 (idC) ts54 st56) ++ ((bldMx 40 (recC) (apL ⟨#[97]⟩ L (⟨d.s, d.c, d.ctx, ⟨#[97]⟩, false, (fun _ => 0)⟩ : Rec)) st25) ++ (bldMx 40 (recC) L st19)))) (fun a => by simp -failIfUnchanged <;> omega) ?_
          refine TE_gq rfl rfl rfl rfl (RD.lenX Tryz.runUnderlying48 rfl hRD59) rfl ?_
          refine TE_gq rfl rfl rfl rfl (RD.move rfl) rfl ?_
          refine TE_gq rfl rfl rfl rfl (RD.lenX Tryz.runUnderlying22 rfl hRD22) rfl ?_
          refine TE_gq rfl rfl rfl rfl (RD.leq rfl rfl) rfl ?_
          refine TE_q rfl rfl (RD.pickT rfl rfl) rfl ?_
          refine TE_q rfl rfl (RD.assign rfl) rfl ?_
          refine TE_nil0 ?_
          refine pn_ret ?_
          exact pn_doneS [] rfl rfl ⟨congrArg Value.bool (decide_eq_true (by have h := del_tips (L := L) (d := (⟨d.s, d.c, d.ctx, ⟨#[97]⟩, false, (fun _ => 0)⟩ : Rec)) rfl; omega)), rfl⟩ (fun _ => Nat.zero_le _) (fun _ he => nomatch he)

end Go.Proofs.YtaakjgmehbbgfaaGreatDoor
