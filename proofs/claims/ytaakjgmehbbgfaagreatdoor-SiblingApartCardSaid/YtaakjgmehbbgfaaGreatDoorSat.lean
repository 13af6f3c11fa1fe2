import Derived.Test.YtaakjgmehbbgfaaGreatDoorSdl
namespace Go.Proofs.YtaakjgmehbbgfaaGreatDoor
open Go Go.Mv
set_option maxRecDepth 8000
def ApartL (L : List Rec) : Prop := ∀ x ∈ L, ∀ y ∈ L, outdoesB x y = false
theorem ApartL.nil : ApartL [] := by intro x hx; cases hx
theorem ApartL.ap {L : List Rec} {r : Rec} (h : ApartL L) : ApartL (apL ⟨#[97]⟩ L r) := by
  unfold apL; split
  · exact h
  · rename_i hb
    have hb' : badB ⟨#[97]⟩ L r = false := by simpa using hb
    have hs : ApartL (stayL L r) := fun x hx y hy => h x (List.mem_filter.1 hx).1 y (List.mem_filter.1 hy).1
    split
    · exact hs
    · rename_i hl
      have hl' : lateB L r = false := by simpa using hl
      have hr : recOkB r = true := by simp only [badB, Bool.or_eq_false_iff, Bool.not_eq_false'] at hb'; exact hb'.1.1
      intro x hx y hy
      rcases insD_mem.1 hx with hx | rfl <;> rcases insD_mem.1 hy with hy | rfl
      · exact hs x hx y hy
      · have := (List.any_eq_false.1 hl') x (List.mem_filter.1 hx).1; simpa using this
      · have := (List.mem_filter.1 hy).2; simpa using this
      · exact outdoes_self hr
theorem apG_bad {ref : ByteArray} {l : List Rec} {r : Rec} (h : ¬ apE ref l r = 0) : apG ref l r = 0 := by
  unfold apE at h; unfold apG
  split at h
  · rename_i hb; rw [if_pos hb]
  · exact absurd rfl h
theorem sib_load {L : List Rec} (h : SibOk L) (ha : ApartL L) (hne : L ≠ []) : loadOk L := by
  refine ⟨hne, fun i x hx => ⟨h.chk x (List.mem_of_getElem? hx), ?_, fun j y hj hy => ?_, fun y hy => ha x (List.mem_of_getElem? hx) y hy⟩⟩
  · rw [h.ref x (List.mem_of_getElem? hx)]
    cases L with
    | nil => exact absurd rfl hne
    | cons z t => exact (h.ref z List.mem_cons_self).symm
  · subst hj
    obtain ⟨hi, e1⟩ := List.getElem?_eq_some_iff.1 hx
    obtain ⟨hj, e2⟩ := List.getElem?_eq_some_iff.1 hy
    rw [← e1, ← e2]
    exact List.pairwise_iff_getElem.1 h.srt j (j + 1) hj hi (by omega)
theorem srt_at {L : List Rec} (h : Srt L) {i k : Nat} (hi : i < L.length) (hk : k < L.length) (h1 : (gt L i).s = (gt L k).s) (h2 : (gt L i).c = (gt L k).c) : i = k := by
  have e1 := gt_eq (List.getElem?_eq_getElem hi); have e2 := gt_eq (List.getElem?_eq_getElem hk)
  rw [e1, e2] at h1 h2
  rcases Nat.lt_trichotomy i k with h3 | h3 | h3
  · have := dlt_iff.1 (List.pairwise_iff_getElem.1 h i k hi hk h3); omega
  · exact h3
  · have := dlt_iff.1 (List.pairwise_iff_getElem.1 h k i hk hi h3); omega

theorem c_SibApart (lv : Value) (l : List Rec) (HX : Mem) (g : Obj) (w : World) (hbl : Rdx 52 (recC) ((0, g) :: HX) lv l) (hll : l.length ≤ 9223372036854775807) (hol : ∀ x ∈ l, RecOk x) (hg : GOk g) (hH : Hp ((0, g) :: HX) w) : Calls Tryz.prog 5 #[lv] w (Ret w [] fun v H1 => v = .bool true ∧ H1 = []) := by
  refine fn_enter (args := [_]) Tryz.func5 rfl Tryz.ntmps5 rfl hH ?_
  refine pn_seq ?_
  refine pn_plain [] rfl ?_
  refine TE_q rfl rfl (RD.assign rfl) rfl ?_
  refine TE_nil0 ?_
  refine pn_seq ?_
  refine pn_plain [] rfl ?_
  refine TE_callG _ [(0, g)] rfl rfl trivial Tryz.call14 rfl rfl rfl (fun w hw => c_alive19 g w hg (hw.sp (fun a => by simp -failIfUnchanged <;> omega))) (fun a => by simp -failIfUnchanged <;> omega) ?_
  rintro v1 H2 ⟨rfl, rfl⟩ -
  refine TE_q rfl rfl (RD.assign rfl) rfl ?_
  refine TE_nil0 ?_
  refine pn_seq ?_
  refine pn_plain [] rfl ?_
  refine TE_callG _ [(0, g)] rfl rfl trivial Tryz.call15 rfl rfl rfl (fun w hw => c_sibNew ⟨#[97]⟩ g w hg (by decide) bk97 (hw.sp (fun a => by simp -failIfUnchanged <;> omega))) (fun a => by simp -failIfUnchanged <;> omega) ?_
  rintro v5 H6 ⟨bs3, rfl, rfl⟩ hX4
  refine TE_sp ((bs3, .cells #[.string ⟨#[97]⟩, .slice none 0 0] 56 (0, 0)) :: (0, g) :: HX) (fun a => by simp -failIfUnchanged <;> omega) ?_
  refine TE_q rfl rfl (RD.move rfl) rfl ?_
  refine TE_q rfl rfl (RD.extract rfl rfl) rfl ?_
  refine TE_q rfl rfl (RD.extract rfl rfl) rfl ?_
  refine TE_q rfl rfl (RD.assign rfl) rfl ?_
  refine TE_q rfl rfl (RD.assign rfl) rfl ?_
  refine TE_nil0 ?_
  refine pn_seq ?_
  refine pn_seq ?_
  refine pn_plain [] rfl ?_
  refine TE_q rfl rfl (RD.move rfl) rfl ?_
  refine TE_callG _ ((0, g) :: HX) rfl rfl trivial Tryz.call9 rfl rfl rfl (fun w hw => c_s19great ((0, g) :: HX) lv l w (hbl.mono (fun _ hw => hw.sp (fun a => by simp -failIfUnchanged <;> omega))) hll (hw.sp (fun a => by simp -failIfUnchanged <;> omega))) (fun a => by simp -failIfUnchanged <;> omega) ?_
  rintro v7 H8 ⟨rfl, rfl⟩ -
  refine TE_q rfl rfl (RD.move rfl) rfl ?_
  refine TE_join (σ := Unit) (fun _ => [(0, lv), (3, .bool true), (4, .pointer (some ⟨bs3, 0, none⟩)), (32, .bool (greatR l))]) (fun _ => ((bs3, .cells #[.string ⟨#[97]⟩, .slice none 0 0] 56 (0, 0)) :: (0, g) :: HX)) (fun _ => True) ?_ ?_
  · refine TE_bool (fun hf9 => ?_) (fun hf9 => ?_)
    · refine TE_s rfl rfl rfl rfl rfl ?_
      refine TE_s rfl rfl rfl rfl rfl ?_
      refine TE_q rfl rfl (RD.pickT rfl rfl) rfl ?_
      refine TE_q rfl rfl (RD.move rfl) rfl ?_
      refine TE_s rfl rfl rfl rfl rfl ?_
      refine TE_s rfl rfl rfl rfl rfl ?_
      refine TE_q rfl rfl (RD.pickT rfl rfl) rfl ?_
      refine TE_nil0 ?_
      exact pn_give () trivial ⟨rfl, rfl, rfl, congrArg (fun b => some (Value.bool b)) (by simp [hf9]), trivial⟩ (fun _ hw => hw.sp (fun a => by simp -failIfUnchanged <;> omega))
    · refine TE_gq rfl rfl rfl rfl (RD.move rfl) rfl ?_
      refine TE_gq rfl rfl rfl rfl (RD.as (v := .bool false) (RD.not rfl) rfl) rfl ?_
      refine TE_q rfl rfl (RD.pickF rfl rfl) rfl ?_
      refine TE_q rfl rfl (RD.move rfl) rfl ?_
      refine TE_gq rfl rfl rfl rfl (RD.move rfl) rfl ?_
      refine TE_gq rfl rfl rfl rfl (RD.as (v := .bool false) (RD.neq rfl rfl) rfl) rfl ?_
      refine TE_q rfl rfl (RD.pickF rfl rfl) rfl ?_
      refine TE_nil0 ?_
      exact pn_give () trivial ⟨rfl, rfl, rfl, congrArg (fun b => some (Value.bool b)) (by simp [hf9]), trivial⟩ (fun _ hw => hw.sp (fun a => by simp -failIfUnchanged <;> omega))
  rintro _ -
  refine pn_cond rfl (fun hc10 => ?_) (fun hc10 => ?_)
  · refine pn_seq ?_
    refine pn_plainG [] [(0, g)] rfl (fun a => by simp -failIfUnchanged <;> omega) ?_
    refine TE_q rfl rfl (RD.move rfl) rfl ?_
    refine TE_q rfl rfl (RD.assign rfl) rfl ?_
    refine TE_nil0 ?_
    refine pn_ret ?_
    exact pn_doneS [] rfl rfl ⟨rfl, rfl⟩ (fun _ => Nat.zero_le _) (fun _ he => nomatch he)
  · have hgr := greatR_F (l := l) hc10
    have hl60 := hgr.1
    refine pn_skip ?_
    refine pn_seq ?_
    refine pn_seq ?_
    refine pn_plain [1] rfl ?_
    refine TE_q rfl rfl (RD.move rfl) rfl ?_
    refine TE_q rfl rfl (RD.lenX Tryz.runUnderlying22 rfl hbl) rfl ?_
    refine TE_q rfl rfl (RD.move rfl) rfl ?_
    refine TE_nil0 ?_
    refine pn_block ?_
    refine pn_loopS (σ := Nat × (List Rec) × SnkS) (fun q => [(3, .bool true), (4, .pointer (some ⟨bs3, 0, none⟩)), (34, lv), (35, .int .i64 (l.length : Int)), (36, .int .i64 (q.1 : Int))]) (fun q => ((bs3, .cells #[.string ⟨#[97]⟩, bldVx q.2.1 q.2.2] 56 (0, 0)) :: (0, g) :: ((bldMx 40 (recC) q.2.1 q.2.2) ++ HX))) (fun q => (q.1 ≤ l.length) ∧ (SibOk q.2.1) ∧ (ApartL q.2.1) ∧ (q.2.1.length ≤ q.1) ∧ (BldOk 52 (recC) q.2.1 q.2.2) ∧ (∀ e ∈ bldMx 40 (recC) q.2.1 q.2.2, w.heap.size ≤ e.1 ∨ e.1 ∈ [])) (fun q => l.length - q.1) (0, [], none) ⟨(by omega), SibOk.nil, ApartL.nil, (Nat.zero_le _), BldOk.nil, (by intro e he; cases he)⟩ ⟨rfl, rfl, rfl, rfl, rfl, trivial⟩ (fun a => by simp -failIfUnchanged <;> omega) ?_
    rintro ⟨i, L, sL⟩ ⟨hi, hS, hA, hLl, hbosL, hXsL⟩
    dsimp only at hi hS hA hLl hbosL hXsL ⊢
    have hRsL : Rdx 52 (recC) (bldMx 40 (recC) L sL) (bldVx L sL) L := hbosL.rdx (u := 40) recC_len
    refine pn_seq ?_
    refine pn_plain [] rfl ?_
    refine TE_q rfl rfl (RD.lss rfl rfl) rfl ?_
    refine TE_nil0 ?_
    refine pn_seq ?_
    refine pn_condD rfl (fun hc11 => ?_) (fun hc11 => ?_)
    · refine pn_skip ?_
      refine pn_seq ?_
      refine pn_block ?_
      refine pn_seq ?_
      refine pn_plain [] rfl ?_
      refine TE_q rfl rfl (RD.idxR (i := i) (o := (i * 52 + 0)) Tryz.runUnderlying22 Tryz.sizeOf40 rfl hbl rfl rfl (by omega) (by rfl)) rfl ?_
      refine TE_l rfl rfl trivial rfl (RD.ldRA (i := i) (j := 0) (vs := (recC (gt l i))) Tryz.isAgg40 Tryz.sizeOf40 rfl hbl (gt_some (by omega)) (by rfl) rfl (fun _ _ hu => by rw [Nat.zero_add]; exact hu) (recC_agg _) (fun _ hw => hw.sp (fun a => by simp -failIfUnchanged <;> omega))) rfl ?_
      refine TE_allocC (recV recZ).cells rfl Tryz.zeroValue40 rfl trivial rfl fun b7 hb7 => ?_
      refine TE_putCW 0 (recV recZ).cells (recV (gt l i)).cells ((b7, .cells (recV (gt l i)).cells 40 (0, 0)) :: (bs3, .cells #[.string ⟨#[97]⟩, bldVx L sL] 56 (0, 0)) :: (0, g) :: ((bldMx 40 (recC) L sL) ++ HX)) rfl Tryz.sizeOf40 trivial rfl rfl rfl rfl rfl rfl rfl rfl (.inl hb7) ?_
      refine TE_nil0 ?_
      refine pn_seq ?_
      refine pn_plain [] rfl ?_
      refine TE_q rfl rfl (RD.fieldAddr (o := 18) Tryz.runUnderlying40 rfl rfl Tryz.sizeOf9 rfl) rfl ?_
      refine TE_storeC 0 (recV (gt l i)).cells (recV (⟨(gt l i).s, (gt l i).c, (gt l i).ctx, ⟨#[97]⟩, (gt l i).has, (gt l i).tip⟩ : Rec)).cells ((b7, .cells (recV (⟨(gt l i).s, (gt l i).c, (gt l i).ctx, ⟨#[97]⟩, (gt l i).has, (gt l i).tip⟩ : Rec)).cells 40 (0, 0)) :: (bs3, .cells #[.string ⟨#[97]⟩, bldVx L sL] 56 (0, 0)) :: (0, g) :: ((bldMx 40 (recC) L sL) ++ HX)) rfl Tryz.sizeOf9 trivial rfl rfl rfl rfl rfl rfl (put_rec_ref _ _) rfl (.inl hb7) ?_
      refine TE_nil0 ?_
      refine pn_seq ?_
      refine pn_plain [] rfl ?_
      refine TE_q rfl rfl (RD.move rfl) rfl ?_
      refine TE_callG _ ((bs3, .cells #[.string ⟨#[97]⟩, bldVx L sL] 56 (0, 0)) :: (bldMx 40 (recC) L sL)) rfl rfl trivial Tryz.call17 rfl rfl rfl (fun w hw => c_sibAll bs3 ⟨#[97]⟩ (bldVx L sL) (bldMx 40 (recC) L sL) L w ne97 (hRsL.mono (fun _ hw => hw.sp (fun a => by simp -failIfUnchanged <;> omega))) hS.ok (by first | assumption | omega | (simp; omega)) (hw.sp (fun a => by simp -failIfUnchanged <;> omega))) (fun a => by simp -failIfUnchanged <;> omega) ?_
      rintro v16 H17 ⟨st12, hbo13, rfl, rfl⟩ hX14
      have hRD15 : Rdx 52 (recC) (bldMx 40 (recC) L st12) (bldVx L st12) L := hbo13.rdx (u := 40) recC_len
      refine TE_sp ((b7, .cells (recV (⟨(gt l i).s, (gt l i).c, (gt l i).ctx, ⟨#[97]⟩, (gt l i).has, (gt l i).tip⟩ : Rec)).cells 40 (0, 0)) :: (bs3, .cells #[.string ⟨#[97]⟩, bldVx L sL] 56 (0, 0)) :: (0, g) :: ((bldMx 40 (recC) L st12) ++ ((bldMx 40 (recC) L sL) ++ HX))) (fun a => by simp -failIfUnchanged <;> omega) ?_
      refine TE_q rfl rfl (RD.assign rfl) rfl ?_
      refine TE_nil0 ?_
      refine pn_seq ?_
      refine pn_plain [] rfl ?_
      refine TE_q rfl rfl (RD.move rfl) rfl ?_
      refine TE_l rfl rfl trivial rfl (RD.loadA (i := 0) Tryz.isAgg40 Tryz.sizeOf40 rfl rfl (Nat.le_of_ble_eq_true rfl) (rec_all _)) rfl ?_
      refine TE_callM _ ((bs3, .cells #[.string ⟨#[97]⟩, bldVx L sL] 56 (0, 0)) :: (bldMx 40 (recC) L sL)) ((b7, .cells (recV (⟨(gt l i).s, (gt l i).c, (gt l i).ctx, ⟨#[97]⟩, (gt l i).has, (gt l i).tip⟩ : Rec)).cells 40 (0, 0)) :: (0, g) :: ((bldMx 40 (recC) L st12) ++ HX)) ((bs3, .cells #[.string ⟨#[97]⟩, bldVx L sL] 56 (0, 0)) :: (0, g) :: (bldMx 40 (recC) L sL)) rfl rfl trivial Tryz.call16 rfl rfl rfl (ownC (.inl (hX4 _ List.mem_cons_self)) hXsL) (fun a => by simp -failIfUnchanged <;> omega) (fun w hw => c_sibApplyF bs3 ⟨#[97]⟩ L sL (⟨(gt l i).s, (gt l i).c, (gt l i).ctx, ⟨#[97]⟩, (gt l i).has, (gt l i).tip⟩ : Rec) g [] w ne97 hbosL hS.ok ⟨((hol _ (gt_mem (by omega)))).s, ((hol _ (gt_mem (by omega)))).c, ((hol _ (gt_mem (by omega)))).ctx, ((hol _ (gt_mem (by omega)))).tip⟩ (by show ByteArray.size ⟨#[97]⟩ < 4294967281; decide) (by first | assumption | omega | (simp; omega)) hg hS.srt (hw.sp (fun a => by simp -failIfUnchanged <;> omega))) (fun a => by simp -failIfUnchanged <;> omega) ?_
      rintro v22 H23 ⟨st18, rfl, hbo19, rfl⟩ hX20
      have hRD21 : Rdx 52 (recC) (bldMx 40 (recC) (apL ⟨#[97]⟩ L (⟨(gt l i).s, (gt l i).c, (gt l i).ctx, ⟨#[97]⟩, (gt l i).has, (gt l i).tip⟩ : Rec)) st18) (bldVx (apL ⟨#[97]⟩ L (⟨(gt l i).s, (gt l i).c, (gt l i).ctx, ⟨#[97]⟩, (gt l i).has, (gt l i).tip⟩ : Rec)) st18) (apL ⟨#[97]⟩ L (⟨(gt l i).s, (gt l i).c, (gt l i).ctx, ⟨#[97]⟩, (gt l i).has, (gt l i).tip⟩ : Rec)) := hbo19.rdx (u := 40) recC_len
      refine TE_sp ((bs3, .cells #[.string ⟨#[97]⟩, bldVx (apL ⟨#[97]⟩ L (⟨(gt l i).s, (gt l i).c, (gt l i).ctx, ⟨#[97]⟩, (gt l i).has, (gt l i).tip⟩ : Rec)) st18] 56 (0, 0)) :: (b7, .cells (recV (⟨(gt l i).s, (gt l i).c, (gt l i).ctx, ⟨#[97]⟩, (gt l i).has, (gt l i).tip⟩ : Rec)).cells 40 (0, 0)) :: (0, g) :: ((bldMx 40 (recC) (apL ⟨#[97]⟩ L (⟨(gt l i).s, (gt l i).c, (gt l i).ctx, ⟨#[97]⟩, (gt l i).has, (gt l i).tip⟩ : Rec)) st18) ++ ((bldMx 40 (recC) L st12) ++ HX))) (fun a => by simp -failIfUnchanged <;> omega) ?_
      have hS3 := hS.ap (r := (⟨(gt l i).s, (gt l i).c, (gt l i).ctx, ⟨#[97]⟩, (gt l i).has, (gt l i).tip⟩ : Rec)) ⟨((hol _ (gt_mem (by omega)))).s, ((hol _ (gt_mem (by omega)))).c, ((hol _ (gt_mem (by omega)))).ctx, ((hol _ (gt_mem (by omega)))).tip⟩
      have hA3 := hA.ap (r := (⟨(gt l i).s, (gt l i).c, (gt l i).ctx, ⟨#[97]⟩, (gt l i).has, (gt l i).tip⟩ : Rec))
      have hL3 : (apL ⟨#[97]⟩ L (⟨(gt l i).s, (gt l i).c, (gt l i).ctx, ⟨#[97]⟩, (gt l i).has, (gt l i).tip⟩ : Rec)).length ≤ L.length + 1 := apL_len
      refine TE_q rfl rfl (RD.move rfl) rfl ?_
      refine TE_q rfl rfl (RD.extract rfl rfl) rfl ?_
      refine TE_q rfl rfl (RD.extract rfl rfl) rfl ?_
      refine TE_q rfl rfl (RD.assign rfl) rfl ?_
      refine TE_q rfl rfl (RD.assign rfl) rfl ?_
      refine TE_nil0 ?_
      refine pn_seq ?_
      refine pn_plainG [] ((bs3, .cells #[.string ⟨#[97]⟩, bldVx (apL ⟨#[97]⟩ L (⟨(gt l i).s, (gt l i).c, (gt l i).ctx, ⟨#[97]⟩, (gt l i).has, (gt l i).tip⟩ : Rec)) st18] 56 (0, 0)) :: (0, g) :: ((bldMx 40 (recC) (apL ⟨#[97]⟩ L (⟨(gt l i).s, (gt l i).c, (gt l i).ctx, ⟨#[97]⟩, (gt l i).has, (gt l i).tip⟩ : Rec)) st18) ++ ((bldMx 40 (recC) L st12) ++ HX))) rfl (fun a => by simp -failIfUnchanged <;> omega) ?_
      refine TE_q rfl rfl (RD.move rfl) rfl ?_
      refine TE_callG _ ((bs3, .cells #[.string ⟨#[97]⟩, bldVx (apL ⟨#[97]⟩ L (⟨(gt l i).s, (gt l i).c, (gt l i).ctx, ⟨#[97]⟩, (gt l i).has, (gt l i).tip⟩ : Rec)) st18] 56 (0, 0)) :: (bldMx 40 (recC) (apL ⟨#[97]⟩ L (⟨(gt l i).s, (gt l i).c, (gt l i).ctx, ⟨#[97]⟩, (gt l i).has, (gt l i).tip⟩ : Rec)) st18)) rfl rfl trivial Tryz.call17 rfl rfl rfl (fun w hw => c_sibAll bs3 ⟨#[97]⟩ (bldVx (apL ⟨#[97]⟩ L (⟨(gt l i).s, (gt l i).c, (gt l i).ctx, ⟨#[97]⟩, (gt l i).has, (gt l i).tip⟩ : Rec)) st18) (bldMx 40 (recC) (apL ⟨#[97]⟩ L (⟨(gt l i).s, (gt l i).c, (gt l i).ctx, ⟨#[97]⟩, (gt l i).has, (gt l i).tip⟩ : Rec)) st18) (apL ⟨#[97]⟩ L (⟨(gt l i).s, (gt l i).c, (gt l i).ctx, ⟨#[97]⟩, (gt l i).has, (gt l i).tip⟩ : Rec)) w ne97 (hRD21.mono (fun _ hw => hw.sp (fun a => by simp -failIfUnchanged <;> omega))) (hS.ap (r := (⟨(gt l i).s, (gt l i).c, (gt l i).ctx, ⟨#[97]⟩, (gt l i).has, (gt l i).tip⟩ : Rec)) ⟨((hol _ (gt_mem (by omega)))).s, ((hol _ (gt_mem (by omega)))).c, ((hol _ (gt_mem (by omega)))).ctx, ((hol _ (gt_mem (by omega)))).tip⟩).ok (Nat.le_trans apL_len (by omega)) (hw.sp (fun a => by simp -failIfUnchanged <;> omega))) (fun a => by simp -failIfUnchanged <;> omega) ?_
      rintro v28 H29 ⟨st24, hbo25, rfl, rfl⟩ hX26
      have hRD27 : Rdx 52 (recC) (bldMx 40 (recC) (apL ⟨#[97]⟩ L (⟨(gt l i).s, (gt l i).c, (gt l i).ctx, ⟨#[97]⟩, (gt l i).has, (gt l i).tip⟩ : Rec)) st24) (bldVx (apL ⟨#[97]⟩ L (⟨(gt l i).s, (gt l i).c, (gt l i).ctx, ⟨#[97]⟩, (gt l i).has, (gt l i).tip⟩ : Rec)) st24) (apL ⟨#[97]⟩ L (⟨(gt l i).s, (gt l i).c, (gt l i).ctx, ⟨#[97]⟩, (gt l i).has, (gt l i).tip⟩ : Rec)) := hbo25.rdx (u := 40) recC_len
      refine TE_sp ((bs3, .cells #[.string ⟨#[97]⟩, bldVx (apL ⟨#[97]⟩ L (⟨(gt l i).s, (gt l i).c, (gt l i).ctx, ⟨#[97]⟩, (gt l i).has, (gt l i).tip⟩ : Rec)) st18] 56 (0, 0)) :: (0, g) :: ((bldMx 40 (recC) (apL ⟨#[97]⟩ L (⟨(gt l i).s, (gt l i).c, (gt l i).ctx, ⟨#[97]⟩, (gt l i).has, (gt l i).tip⟩ : Rec)) st24) ++ ((bldMx 40 (recC) (apL ⟨#[97]⟩ L (⟨(gt l i).s, (gt l i).c, (gt l i).ctx, ⟨#[97]⟩, (gt l i).has, (gt l i).tip⟩ : Rec)) st18) ++ ((bldMx 40 (recC) L st12) ++ HX)))) (fun a => by simp -failIfUnchanged <;> omega) ?_
      refine TE_q rfl rfl (RD.assign rfl) rfl ?_
      refine TE_nil0 ?_
      refine pn_seq ?_
      refine pn_seq ?_
      refine pn_plain [] rfl ?_
      refine TE_q rfl rfl (RD.move rfl) rfl ?_
      refine TE_q rfl rfl (RD.neq rfl rfl) rfl ?_
      refine TE_q rfl rfl (RD.move rfl) rfl ?_
      refine TE_join (σ := Unit) (fun _ => [(3, .bool true), (4, .pointer (some ⟨bs3, 0, none⟩)), (11, bldVx (apL ⟨#[97]⟩ L (⟨(gt l i).s, (gt l i).c, (gt l i).ctx, ⟨#[97]⟩, (gt l i).has, (gt l i).tip⟩ : Rec)) st24), (34, lv), (35, .int .i64 (l.length : Int)), (36, .int .i64 (i : Int)), (62, .bool ((!decide ((apE ⟨#[97]⟩ L (⟨(gt l i).s, (gt l i).c, (gt l i).ctx, ⟨#[97]⟩, (gt l i).has, (gt l i).tip⟩ : Rec)) = 0)) && ((!decide ((apG ⟨#[97]⟩ L (⟨(gt l i).s, (gt l i).c, (gt l i).ctx, ⟨#[97]⟩, (gt l i).has, (gt l i).tip⟩ : Rec)) = 0)) || (!(sameLB L (apL ⟨#[97]⟩ L (⟨(gt l i).s, (gt l i).c, (gt l i).ctx, ⟨#[97]⟩, (gt l i).has, (gt l i).tip⟩ : Rec)))))))]) (fun _ => ((bs3, .cells #[.string ⟨#[97]⟩, bldVx (apL ⟨#[97]⟩ L (⟨(gt l i).s, (gt l i).c, (gt l i).ctx, ⟨#[97]⟩, (gt l i).has, (gt l i).tip⟩ : Rec)) st18] 56 (0, 0)) :: (0, g) :: ((bldMx 40 (recC) (apL ⟨#[97]⟩ L (⟨(gt l i).s, (gt l i).c, (gt l i).ctx, ⟨#[97]⟩, (gt l i).has, (gt l i).tip⟩ : Rec)) st24) ++ ((bldMx 40 (recC) (apL ⟨#[97]⟩ L (⟨(gt l i).s, (gt l i).c, (gt l i).ctx, ⟨#[97]⟩, (gt l i).has, (gt l i).tip⟩ : Rec)) st18) ++ ((bldMx 40 (recC) L st12) ++ HX))))) (fun _ => True) ?_ ?_
      · refine TE_ndec (fun hf30 => ?_) (fun hf30 => ?_)
        · refine TE_gq rfl rfl rfl rfl (RD.move rfl) rfl ?_
          refine TE_gq rfl rfl rfl rfl (RD.neq rfl rfl) rfl ?_
          refine TE_gq rfl rfl rfl rfl (RD.move rfl) rfl ?_
          refine TE_ndec (fun hf31 => ?_) (fun hf31 => ?_)
          · refine TE_s rfl rfl rfl rfl rfl ?_
            refine TE_s rfl rfl rfl rfl rfl ?_
            refine TE_s rfl rfl rfl rfl rfl ?_
            refine TE_s rfl rfl rfl rfl rfl ?_
            refine TE_gq rfl rfl rfl rfl (RD.pickT rfl rfl) rfl ?_
            refine TE_q rfl rfl (RD.pickT rfl rfl) rfl ?_
            refine TE_nil0 ?_
            exact pn_give () trivial ⟨rfl, rfl, rfl, rfl, rfl, rfl, congrArg (fun b => some (Value.bool b)) (by simp [hf30, hf31]), trivial⟩ (fun _ hw => hw.sp (fun a => by simp -failIfUnchanged <;> omega))
          · refine TE_gq rfl rfl rfl rfl (RD.move rfl) rfl ?_
            refine TE_gq rfl rfl rfl rfl (RD.move rfl) rfl ?_
            refine TE_callG _ ((bldMx 40 (recC) (apL ⟨#[97]⟩ L (⟨(gt l i).s, (gt l i).c, (gt l i).ctx, ⟨#[97]⟩, (gt l i).has, (gt l i).tip⟩ : Rec)) st24) ++ (bldMx 40 (recC) L st12)) rfl rfl ⟨_, rfl, rfl⟩ Tryz.call12 rfl rfl rfl (fun w hw => c_r12Same ((bldMx 40 (recC) (apL ⟨#[97]⟩ L (⟨(gt l i).s, (gt l i).c, (gt l i).ctx, ⟨#[97]⟩, (gt l i).has, (gt l i).tip⟩ : Rec)) st24) ++ (bldMx 40 (recC) L st12)) (bldVx L st12) (bldVx (apL ⟨#[97]⟩ L (⟨(gt l i).s, (gt l i).c, (gt l i).ctx, ⟨#[97]⟩, (gt l i).has, (gt l i).tip⟩ : Rec)) st24) L (apL ⟨#[97]⟩ L (⟨(gt l i).s, (gt l i).c, (gt l i).ctx, ⟨#[97]⟩, (gt l i).has, (gt l i).tip⟩ : Rec)) w (hRD15.mono (fun _ hw => hw.sp (fun a => by simp -failIfUnchanged <;> omega))) (hRD27.mono (fun _ hw => hw.sp (fun a => by simp -failIfUnchanged <;> omega))) (by first | assumption | omega | (simp; omega)) (hw.sp (fun a => by simp -failIfUnchanged <;> omega))) (fun a => by simp -failIfUnchanged <;> omega) ?_
            rintro v32 H33 ⟨rfl, rfl⟩ -
            refine TE_gq rfl rfl rfl rfl (RD.not rfl) rfl ?_
            refine TE_gq rfl rfl rfl rfl (RD.pickF rfl rfl) rfl ?_
            refine TE_q rfl rfl (RD.pickT rfl rfl) rfl ?_
            refine TE_nil0 ?_
            exact pn_give () trivial ⟨rfl, rfl, rfl, rfl, rfl, rfl, congrArg (fun b => some (Value.bool b)) (by simp [hf30, hf31]), trivial⟩ (fun _ hw => hw.sp (fun a => by simp -failIfUnchanged <;> omega))
        · refine TE_s rfl rfl rfl rfl rfl ?_
          refine TE_s rfl rfl rfl rfl rfl ?_
          refine TE_s rfl rfl rfl rfl rfl ?_
          refine TE_su rfl rfl rfl rfl ?_
          refine TE_su rfl rfl rfl rfl ?_
          refine TE_su rfl rfl rfl rfl ?_
          refine TE_su rfl rfl rfl rfl ?_
          refine TE_s rfl rfl rfl rfl rfl ?_
          refine TE_q rfl rfl (RD.pickF rfl rfl) rfl ?_
          refine TE_nil0 ?_
          exact pn_give () trivial ⟨rfl, rfl, rfl, rfl, rfl, rfl, congrArg (fun b => some (Value.bool b)) (by simp [hf30]), trivial⟩ (fun _ hw => hw.sp (fun a => by simp -failIfUnchanged <;> omega))
      rintro _ -
      refine pn_cond rfl (fun hc34 => ?_) (fun hc34 => ?_)
      · exfalso
        by_cases he : apE ⟨#[97]⟩ L (⟨(gt l i).s, (gt l i).c, (gt l i).ctx, ⟨#[97]⟩, (gt l i).has, (gt l i).tip⟩ : Rec) = 0; simp [he] at hc34; simp [apE_bad he, apG_bad he, sameLB_self] at hc34
      · simp only [Bool.and_eq_false_iff, Bool.not_eq_false', Bool.or_eq_false_iff, decide_eq_true_eq] at hc34
        refine pn_skip ?_
        refine pn_seq ?_
        refine pn_seq ?_
        refine pn_plainG [1] ((bs3, .cells #[.string ⟨#[97]⟩, bldVx (apL ⟨#[97]⟩ L (⟨(gt l i).s, (gt l i).c, (gt l i).ctx, ⟨#[97]⟩, (gt l i).has, (gt l i).tip⟩ : Rec)) st18] 56 (0, 0)) :: (0, g) :: ((bldMx 40 (recC) (apL ⟨#[97]⟩ L (⟨(gt l i).s, (gt l i).c, (gt l i).ctx, ⟨#[97]⟩, (gt l i).has, (gt l i).tip⟩ : Rec)) st24) ++ ((bldMx 40 (recC) (apL ⟨#[97]⟩ L (⟨(gt l i).s, (gt l i).c, (gt l i).ctx, ⟨#[97]⟩, (gt l i).has, (gt l i).tip⟩ : Rec)) st18) ++ HX))) rfl (fun a => by simp -failIfUnchanged <;> omega) ?_
        refine TE_q rfl rfl (RD.move rfl) rfl ?_
        refine TE_q rfl rfl (RD.lenX Tryz.runUnderlying22 rfl hRD27) rfl ?_
        refine TE_q rfl rfl (RD.move rfl) rfl ?_
        refine TE_nil0 ?_
        refine pn_block ?_
        refine pn_loopS (σ := Nat) (fun q => [(3, .bool true), (4, .pointer (some ⟨bs3, 0, none⟩)), (11, bldVx (apL ⟨#[97]⟩ L (⟨(gt l i).s, (gt l i).c, (gt l i).ctx, ⟨#[97]⟩, (gt l i).has, (gt l i).tip⟩ : Rec)) st24), (34, lv), (35, .int .i64 (l.length : Int)), (36, .int .i64 (i : Int)), (63, bldVx (apL ⟨#[97]⟩ L (⟨(gt l i).s, (gt l i).c, (gt l i).ctx, ⟨#[97]⟩, (gt l i).has, (gt l i).tip⟩ : Rec)) st24), (64, .int .i64 ((apL ⟨#[97]⟩ L (⟨(gt l i).s, (gt l i).c, (gt l i).ctx, ⟨#[97]⟩, (gt l i).has, (gt l i).tip⟩ : Rec)).length : Int)), (65, .int .i64 (q : Int))]) (fun q => ((bs3, .cells #[.string ⟨#[97]⟩, bldVx (apL ⟨#[97]⟩ L (⟨(gt l i).s, (gt l i).c, (gt l i).ctx, ⟨#[97]⟩, (gt l i).has, (gt l i).tip⟩ : Rec)) st18] 56 (0, 0)) :: (0, g) :: ((bldMx 40 (recC) (apL ⟨#[97]⟩ L (⟨(gt l i).s, (gt l i).c, (gt l i).ctx, ⟨#[97]⟩, (gt l i).has, (gt l i).tip⟩ : Rec)) st24) ++ ((bldMx 40 (recC) (apL ⟨#[97]⟩ L (⟨(gt l i).s, (gt l i).c, (gt l i).ctx, ⟨#[97]⟩, (gt l i).has, (gt l i).tip⟩ : Rec)) st18) ++ HX)))) (fun q => (q ≤ (apL ⟨#[97]⟩ L (⟨(gt l i).s, (gt l i).c, (gt l i).ctx, ⟨#[97]⟩, (gt l i).has, (gt l i).tip⟩ : Rec)).length)) (fun q => (apL ⟨#[97]⟩ L (⟨(gt l i).s, (gt l i).c, (gt l i).ctx, ⟨#[97]⟩, (gt l i).has, (gt l i).tip⟩ : Rec)).length - q) 0 (by omega) ⟨rfl, rfl, rfl, rfl, rfl, rfl, rfl, rfl, rfl, trivial⟩ (fun a => by simp -failIfUnchanged <;> omega) ?_
        rintro i1 hi1
        refine pn_seq ?_
        refine pn_plain [] rfl ?_
        refine TE_q rfl rfl (RD.lss rfl rfl) rfl ?_
        refine TE_nil0 ?_
        refine pn_seq ?_
        refine pn_condD rfl (fun hc35 => ?_) (fun hc35 => ?_)
        · refine pn_skip ?_
          refine pn_seq ?_
          refine pn_block ?_
          refine pn_seq ?_
          refine pn_plain [] rfl ?_
          refine TE_q rfl rfl (RD.move rfl) rfl ?_
          refine TE_q rfl rfl (RD.idxR (i := i1) (o := (i1 * 52 + 0)) Tryz.runUnderlying22 Tryz.sizeOf40 rfl hRD27 rfl rfl (by omega) (by rfl)) rfl ?_
          refine TE_l rfl rfl trivial rfl (RD.ldRA (i := i1) (j := 0) (vs := (recC (gt (apL ⟨#[97]⟩ L (⟨(gt l i).s, (gt l i).c, (gt l i).ctx, ⟨#[97]⟩, (gt l i).has, (gt l i).tip⟩ : Rec)) i1))) Tryz.isAgg40 Tryz.sizeOf40 rfl hRD27 (gt_some (by omega)) (by rfl) rfl (fun _ _ hu => by rw [Nat.zero_add]; exact hu) (recC_agg _) (fun _ hw => hw.sp (fun a => by simp -failIfUnchanged <;> omega))) rfl ?_
          refine TE_allocC (recV recZ).cells rfl Tryz.zeroValue40 rfl trivial rfl fun b13 hb13 => ?_
          refine TE_q rfl rfl (RD.assign rfl) rfl ?_
          refine TE_putCW 0 (recV recZ).cells (recV (gt (apL ⟨#[97]⟩ L (⟨(gt l i).s, (gt l i).c, (gt l i).ctx, ⟨#[97]⟩, (gt l i).has, (gt l i).tip⟩ : Rec)) i1)).cells ((b13, .cells (recV (gt (apL ⟨#[97]⟩ L (⟨(gt l i).s, (gt l i).c, (gt l i).ctx, ⟨#[97]⟩, (gt l i).has, (gt l i).tip⟩ : Rec)) i1)).cells 40 (0, 0)) :: (bs3, .cells #[.string ⟨#[97]⟩, bldVx (apL ⟨#[97]⟩ L (⟨(gt l i).s, (gt l i).c, (gt l i).ctx, ⟨#[97]⟩, (gt l i).has, (gt l i).tip⟩ : Rec)) st18] 56 (0, 0)) :: (0, g) :: ((bldMx 40 (recC) (apL ⟨#[97]⟩ L (⟨(gt l i).s, (gt l i).c, (gt l i).ctx, ⟨#[97]⟩, (gt l i).has, (gt l i).tip⟩ : Rec)) st24) ++ ((bldMx 40 (recC) (apL ⟨#[97]⟩ L (⟨(gt l i).s, (gt l i).c, (gt l i).ctx, ⟨#[97]⟩, (gt l i).has, (gt l i).tip⟩ : Rec)) st18) ++ HX))) rfl Tryz.sizeOf40 trivial rfl rfl rfl rfl rfl rfl rfl rfl (.inl hb13) ?_
          refine TE_nil0 ?_
          refine pn_seq ?_
          refine pn_plain [1] rfl ?_
          refine TE_q rfl rfl (RD.move rfl) rfl ?_
          refine TE_q rfl rfl (RD.lenX Tryz.runUnderlying22 rfl hRD27) rfl ?_
          refine TE_q rfl rfl (RD.move rfl) rfl ?_
          refine TE_nil0 ?_
          refine pn_block ?_
          refine pn_loopS (σ := Nat) (fun q => [(3, .bool true), (4, .pointer (some ⟨bs3, 0, none⟩)), (11, bldVx (apL ⟨#[97]⟩ L (⟨(gt l i).s, (gt l i).c, (gt l i).ctx, ⟨#[97]⟩, (gt l i).has, (gt l i).tip⟩ : Rec)) st24), (12, .int .i64 (i1 : Int)), (13, .pointer (some ⟨b13, 0, none⟩)), (34, lv), (35, .int .i64 (l.length : Int)), (36, .int .i64 (i : Int)), (63, bldVx (apL ⟨#[97]⟩ L (⟨(gt l i).s, (gt l i).c, (gt l i).ctx, ⟨#[97]⟩, (gt l i).has, (gt l i).tip⟩ : Rec)) st24), (64, .int .i64 ((apL ⟨#[97]⟩ L (⟨(gt l i).s, (gt l i).c, (gt l i).ctx, ⟨#[97]⟩, (gt l i).has, (gt l i).tip⟩ : Rec)).length : Int)), (65, .int .i64 (i1 : Int)), (70, bldVx (apL ⟨#[97]⟩ L (⟨(gt l i).s, (gt l i).c, (gt l i).ctx, ⟨#[97]⟩, (gt l i).has, (gt l i).tip⟩ : Rec)) st24), (71, .int .i64 ((apL ⟨#[97]⟩ L (⟨(gt l i).s, (gt l i).c, (gt l i).ctx, ⟨#[97]⟩, (gt l i).has, (gt l i).tip⟩ : Rec)).length : Int)), (72, .int .i64 (q : Int))]) (fun q => ((b13, .cells (recV (gt (apL ⟨#[97]⟩ L (⟨(gt l i).s, (gt l i).c, (gt l i).ctx, ⟨#[97]⟩, (gt l i).has, (gt l i).tip⟩ : Rec)) i1)).cells 40 (0, 0)) :: (bs3, .cells #[.string ⟨#[97]⟩, bldVx (apL ⟨#[97]⟩ L (⟨(gt l i).s, (gt l i).c, (gt l i).ctx, ⟨#[97]⟩, (gt l i).has, (gt l i).tip⟩ : Rec)) st18] 56 (0, 0)) :: (0, g) :: ((bldMx 40 (recC) (apL ⟨#[97]⟩ L (⟨(gt l i).s, (gt l i).c, (gt l i).ctx, ⟨#[97]⟩, (gt l i).has, (gt l i).tip⟩ : Rec)) st24) ++ ((bldMx 40 (recC) (apL ⟨#[97]⟩ L (⟨(gt l i).s, (gt l i).c, (gt l i).ctx, ⟨#[97]⟩, (gt l i).has, (gt l i).tip⟩ : Rec)) st18) ++ HX)))) (fun q => (q ≤ (apL ⟨#[97]⟩ L (⟨(gt l i).s, (gt l i).c, (gt l i).ctx, ⟨#[97]⟩, (gt l i).has, (gt l i).tip⟩ : Rec)).length)) (fun q => (apL ⟨#[97]⟩ L (⟨(gt l i).s, (gt l i).c, (gt l i).ctx, ⟨#[97]⟩, (gt l i).has, (gt l i).tip⟩ : Rec)).length - q) 0 (by omega) ⟨rfl, rfl, rfl, rfl, rfl, rfl, rfl, rfl, rfl, rfl, rfl, rfl, rfl, rfl, trivial⟩ (fun a => by simp -failIfUnchanged <;> omega) ?_
          rintro k hk
          refine pn_seq ?_
          refine pn_plain [] rfl ?_
          refine TE_q rfl rfl (RD.lss rfl rfl) rfl ?_
          refine TE_nil0 ?_
          refine pn_seq ?_
          refine pn_condD rfl (fun hc36 => ?_) (fun hc36 => ?_)
          · refine pn_skip ?_
            refine pn_seq ?_
            refine pn_block ?_
            refine pn_seq ?_
            refine pn_plain [] rfl ?_
            refine TE_q rfl rfl (RD.move rfl) rfl ?_
            refine TE_q rfl rfl (RD.idxR (i := k) (o := (k * 52 + 0)) Tryz.runUnderlying22 Tryz.sizeOf40 rfl hRD27 rfl rfl (by omega) (by rfl)) rfl ?_
            refine TE_l rfl rfl trivial rfl (RD.ldRA (i := k) (j := 0) (vs := (recC (gt (apL ⟨#[97]⟩ L (⟨(gt l i).s, (gt l i).c, (gt l i).ctx, ⟨#[97]⟩, (gt l i).has, (gt l i).tip⟩ : Rec)) k))) Tryz.isAgg40 Tryz.sizeOf40 rfl hRD27 (gt_some (by omega)) (by rfl) rfl (fun _ _ hu => by rw [Nat.zero_add]; exact hu) (recC_agg _) (fun _ hw => hw.sp (fun a => by simp -failIfUnchanged <;> omega))) rfl ?_
            refine TE_allocC (recV recZ).cells rfl Tryz.zeroValue40 rfl trivial rfl fun b15 hb15 => ?_
            refine TE_q rfl rfl (RD.assign rfl) rfl ?_
            refine TE_putCW 0 (recV recZ).cells (recV (gt (apL ⟨#[97]⟩ L (⟨(gt l i).s, (gt l i).c, (gt l i).ctx, ⟨#[97]⟩, (gt l i).has, (gt l i).tip⟩ : Rec)) k)).cells ((b15, .cells (recV (gt (apL ⟨#[97]⟩ L (⟨(gt l i).s, (gt l i).c, (gt l i).ctx, ⟨#[97]⟩, (gt l i).has, (gt l i).tip⟩ : Rec)) k)).cells 40 (0, 0)) :: (b13, .cells (recV (gt (apL ⟨#[97]⟩ L (⟨(gt l i).s, (gt l i).c, (gt l i).ctx, ⟨#[97]⟩, (gt l i).has, (gt l i).tip⟩ : Rec)) i1)).cells 40 (0, 0)) :: (bs3, .cells #[.string ⟨#[97]⟩, bldVx (apL ⟨#[97]⟩ L (⟨(gt l i).s, (gt l i).c, (gt l i).ctx, ⟨#[97]⟩, (gt l i).has, (gt l i).tip⟩ : Rec)) st18] 56 (0, 0)) :: (0, g) :: ((bldMx 40 (recC) (apL ⟨#[97]⟩ L (⟨(gt l i).s, (gt l i).c, (gt l i).ctx, ⟨#[97]⟩, (gt l i).has, (gt l i).tip⟩ : Rec)) st24) ++ ((bldMx 40 (recC) (apL ⟨#[97]⟩ L (⟨(gt l i).s, (gt l i).c, (gt l i).ctx, ⟨#[97]⟩, (gt l i).has, (gt l i).tip⟩ : Rec)) st18) ++ HX))) rfl Tryz.sizeOf40 trivial rfl rfl rfl rfl rfl rfl rfl rfl (.inl hb15) ?_
            refine TE_nil0 ?_
            refine pn_seq ?_
            refine pn_plain [] rfl ?_
            refine TE_l rfl rfl trivial rfl (RD.loadA (i := 1) Tryz.isAgg40 Tryz.sizeOf40 rfl rfl (Nat.le_of_ble_eq_true rfl) (rec_all _)) rfl ?_
            refine TE_l rfl rfl trivial rfl (RD.loadA (i := 0) Tryz.isAgg40 Tryz.sizeOf40 rfl rfl (Nat.le_of_ble_eq_true rfl) (rec_all _)) rfl ?_
            refine TE_callG _ [] rfl rfl trivial Tryz.call20 rfl rfl rfl (fun w hw => c_outdoes (gt (apL ⟨#[97]⟩ L (⟨(gt l i).s, (gt l i).c, (gt l i).ctx, ⟨#[97]⟩, (gt l i).has, (gt l i).tip⟩ : Rec)) i1) (gt (apL ⟨#[97]⟩ L (⟨(gt l i).s, (gt l i).c, (gt l i).ctx, ⟨#[97]⟩, (gt l i).has, (gt l i).tip⟩ : Rec)) k) w (hS3.ok _ (gt_mem (by omega)))) (fun a => by simp -failIfUnchanged <;> omega) ?_
            rintro v37 H38 ⟨rfl, rfl⟩ -
            refine TE_q rfl rfl (RD.move rfl) rfl ?_
            refine TE_join (σ := Unit) (fun _ => [(3, .bool true), (4, .pointer (some ⟨bs3, 0, none⟩)), (11, bldVx (apL ⟨#[97]⟩ L (⟨(gt l i).s, (gt l i).c, (gt l i).ctx, ⟨#[97]⟩, (gt l i).has, (gt l i).tip⟩ : Rec)) st24), (12, .int .i64 (i1 : Int)), (13, .pointer (some ⟨b13, 0, none⟩)), (34, lv), (35, .int .i64 (l.length : Int)), (36, .int .i64 (i : Int)), (63, bldVx (apL ⟨#[97]⟩ L (⟨(gt l i).s, (gt l i).c, (gt l i).ctx, ⟨#[97]⟩, (gt l i).has, (gt l i).tip⟩ : Rec)) st24), (64, .int .i64 ((apL ⟨#[97]⟩ L (⟨(gt l i).s, (gt l i).c, (gt l i).ctx, ⟨#[97]⟩, (gt l i).has, (gt l i).tip⟩ : Rec)).length : Int)), (65, .int .i64 (i1 : Int)), (70, bldVx (apL ⟨#[97]⟩ L (⟨(gt l i).s, (gt l i).c, (gt l i).ctx, ⟨#[97]⟩, (gt l i).has, (gt l i).tip⟩ : Rec)) st24), (71, .int .i64 ((apL ⟨#[97]⟩ L (⟨(gt l i).s, (gt l i).c, (gt l i).ctx, ⟨#[97]⟩, (gt l i).has, (gt l i).tip⟩ : Rec)).length : Int)), (72, .int .i64 (k : Int)), (91, .bool ((outdoesB (gt (apL ⟨#[97]⟩ L (⟨(gt l i).s, (gt l i).c, (gt l i).ctx, ⟨#[97]⟩, (gt l i).has, (gt l i).tip⟩ : Rec)) i1) (gt (apL ⟨#[97]⟩ L (⟨(gt l i).s, (gt l i).c, (gt l i).ctx, ⟨#[97]⟩, (gt l i).has, (gt l i).tip⟩ : Rec)) k)) || ((!decide ((i1 : Int) = (k : Int))) && (decide (((gt (apL ⟨#[97]⟩ L (⟨(gt l i).s, (gt l i).c, (gt l i).ctx, ⟨#[97]⟩, (gt l i).has, (gt l i).tip⟩ : Rec)) i1).s) = ((gt (apL ⟨#[97]⟩ L (⟨(gt l i).s, (gt l i).c, (gt l i).ctx, ⟨#[97]⟩, (gt l i).has, (gt l i).tip⟩ : Rec)) k).s)) && decide (((gt (apL ⟨#[97]⟩ L (⟨(gt l i).s, (gt l i).c, (gt l i).ctx, ⟨#[97]⟩, (gt l i).has, (gt l i).tip⟩ : Rec)) i1).c) = ((gt (apL ⟨#[97]⟩ L (⟨(gt l i).s, (gt l i).c, (gt l i).ctx, ⟨#[97]⟩, (gt l i).has, (gt l i).tip⟩ : Rec)) k).c))))))]) (fun _ => ((b15, .cells (recV (gt (apL ⟨#[97]⟩ L (⟨(gt l i).s, (gt l i).c, (gt l i).ctx, ⟨#[97]⟩, (gt l i).has, (gt l i).tip⟩ : Rec)) k)).cells 40 (0, 0)) :: (b13, .cells (recV (gt (apL ⟨#[97]⟩ L (⟨(gt l i).s, (gt l i).c, (gt l i).ctx, ⟨#[97]⟩, (gt l i).has, (gt l i).tip⟩ : Rec)) i1)).cells 40 (0, 0)) :: (bs3, .cells #[.string ⟨#[97]⟩, bldVx (apL ⟨#[97]⟩ L (⟨(gt l i).s, (gt l i).c, (gt l i).ctx, ⟨#[97]⟩, (gt l i).has, (gt l i).tip⟩ : Rec)) st18] 56 (0, 0)) :: (0, g) :: ((bldMx 40 (recC) (apL ⟨#[97]⟩ L (⟨(gt l i).s, (gt l i).c, (gt l i).ctx, ⟨#[97]⟩, (gt l i).has, (gt l i).tip⟩ : Rec)) st24) ++ ((bldMx 40 (recC) (apL ⟨#[97]⟩ L (⟨(gt l i).s, (gt l i).c, (gt l i).ctx, ⟨#[97]⟩, (gt l i).has, (gt l i).tip⟩ : Rec)) st18) ++ HX)))) (fun _ => True) ?_ ?_
            · refine TE_bool (fun hf39 => ?_) (fun hf39 => ?_)
              · refine TE_s rfl rfl rfl rfl rfl ?_
                refine TE_s rfl rfl rfl rfl rfl ?_
                refine TE_s rfl rfl rfl rfl rfl ?_
                refine TE_s rfl rfl rfl rfl rfl ?_
                refine TE_su rfl rfl rfl rfl ?_
                refine TE_su rfl rfl rfl rfl ?_
                refine TE_su rfl rfl rfl rfl ?_
                refine TE_su rfl rfl rfl rfl ?_
                refine TE_su rfl rfl rfl rfl ?_
                refine TE_s rfl rfl rfl rfl rfl ?_
                refine TE_q rfl rfl (RD.pickT rfl rfl) rfl ?_
                refine TE_nil0 ?_
                exact pn_give () trivial ⟨rfl, rfl, rfl, rfl, rfl, rfl, rfl, rfl, rfl, rfl, rfl, rfl, rfl, rfl, congrArg (fun b => some (Value.bool b)) (by simp [hf39]), trivial⟩ (fun _ hw => hw.sp (fun a => by simp -failIfUnchanged <;> omega))
              · refine TE_gq rfl rfl rfl rfl (RD.move rfl) rfl ?_
                refine TE_gq rfl rfl rfl rfl (RD.move rfl) rfl ?_
                refine TE_gq rfl rfl rfl rfl (RD.neq rfl rfl) rfl ?_
                refine TE_gq rfl rfl rfl rfl (RD.move rfl) rfl ?_
                refine TE_ndec (fun hf40 => ?_) (fun hf40 => ?_)
                · refine TE_gq rfl rfl rfl rfl (RD.fieldAddr (o := 0) Tryz.runUnderlying40 rfl rfl Tryz.sizeOf33 rfl) rfl ?_
                  refine TE_l rfl rfl ⟨_, rfl, rfl⟩ rfl (RD.loadA (i := 1) (v := dotV ((gt (apL ⟨#[97]⟩ L (⟨(gt l i).s, (gt l i).c, (gt l i).ctx, ⟨#[97]⟩, (gt l i).has, (gt l i).tip⟩ : Rec)) i1).s) ((gt (apL ⟨#[97]⟩ L (⟨(gt l i).s, (gt l i).c, (gt l i).ctx, ⟨#[97]⟩, (gt l i).has, (gt l i).tip⟩ : Rec)) i1).c)) Tryz.isAgg33 Tryz.sizeOf33 rfl rfl (Nat.le_of_ble_eq_true rfl) (rec_dot _)) rfl ?_
                  refine TE_gq rfl rfl rfl rfl (RD.fieldAddr (o := 0) Tryz.runUnderlying40 rfl rfl Tryz.sizeOf33 rfl) rfl ?_
                  refine TE_l rfl rfl ⟨_, rfl, rfl⟩ rfl (RD.loadA (i := 0) (v := dotV ((gt (apL ⟨#[97]⟩ L (⟨(gt l i).s, (gt l i).c, (gt l i).ctx, ⟨#[97]⟩, (gt l i).has, (gt l i).tip⟩ : Rec)) k).s) ((gt (apL ⟨#[97]⟩ L (⟨(gt l i).s, (gt l i).c, (gt l i).ctx, ⟨#[97]⟩, (gt l i).has, (gt l i).tip⟩ : Rec)) k).c)) Tryz.isAgg33 Tryz.sizeOf33 rfl rfl (Nat.le_of_ble_eq_true rfl) (rec_dot _)) rfl ?_
                  refine TE_gq rfl rfl rfl rfl (RD.eql_agg Tryz.eqGuardType33 (eq_dot ((gt (apL ⟨#[97]⟩ L (⟨(gt l i).s, (gt l i).c, (gt l i).ctx, ⟨#[97]⟩, (gt l i).has, (gt l i).tip⟩ : Rec)) i1).s) ((gt (apL ⟨#[97]⟩ L (⟨(gt l i).s, (gt l i).c, (gt l i).ctx, ⟨#[97]⟩, (gt l i).has, (gt l i).tip⟩ : Rec)) i1).c) ((gt (apL ⟨#[97]⟩ L (⟨(gt l i).s, (gt l i).c, (gt l i).ctx, ⟨#[97]⟩, (gt l i).has, (gt l i).tip⟩ : Rec)) k).s) ((gt (apL ⟨#[97]⟩ L (⟨(gt l i).s, (gt l i).c, (gt l i).ctx, ⟨#[97]⟩, (gt l i).has, (gt l i).tip⟩ : Rec)) k).c)) rfl rfl) rfl ?_
                  refine TE_gq rfl rfl rfl rfl (RD.pickT rfl rfl) rfl ?_
                  refine TE_q rfl rfl (RD.pickF rfl rfl) rfl ?_
                  refine TE_nil0 ?_
                  exact pn_give () trivial ⟨rfl, rfl, rfl, rfl, rfl, rfl, rfl, rfl, rfl, rfl, rfl, rfl, rfl, rfl, congrArg (fun b => some (Value.bool b)) (by simp [hf39, hf40]), trivial⟩ (fun _ hw => hw.sp (fun a => by simp -failIfUnchanged <;> omega))
                · refine TE_s rfl rfl rfl rfl rfl ?_
                  refine TE_s rfl rfl rfl rfl rfl ?_
                  refine TE_s rfl rfl rfl rfl rfl ?_
                  refine TE_s rfl rfl rfl rfl rfl ?_
                  refine TE_s rfl rfl rfl rfl rfl ?_
                  refine TE_gq rfl rfl rfl rfl (RD.pickF rfl rfl) rfl ?_
                  refine TE_q rfl rfl (RD.pickF rfl rfl) rfl ?_
                  refine TE_nil0 ?_
                  exact pn_give () trivial ⟨rfl, rfl, rfl, rfl, rfl, rfl, rfl, rfl, rfl, rfl, rfl, rfl, rfl, rfl, congrArg (fun b => some (Value.bool b)) (by simp [hf39, hf40]), trivial⟩ (fun _ hw => hw.sp (fun a => by simp -failIfUnchanged <;> omega))
            rintro _ -
            refine pn_cond rfl (fun hc41 => ?_) (fun hc41 => ?_)
            · exfalso
              simp only [Bool.or_eq_true, Bool.and_eq_true, Bool.not_eq_true', decide_eq_false_iff_not, decide_eq_true_eq] at hc41; rcases hc41 with h | ⟨h1, h2, h3⟩; (rw [hA3 _ (gt_mem (by omega)) _ (gt_mem (by omega))] at h; cases h); exact h1 (by have := srt_at hS3.srt (by omega) (by omega) h2 h3; omega)
            · simp only [Bool.and_eq_false_iff, Bool.not_eq_false', Bool.or_eq_false_iff, decide_eq_true_eq] at hc41
              refine pn_skip ?_
              refine pn_plainG [] ((b13, .cells (recV (gt (apL ⟨#[97]⟩ L (⟨(gt l i).s, (gt l i).c, (gt l i).ctx, ⟨#[97]⟩, (gt l i).has, (gt l i).tip⟩ : Rec)) i1)).cells 40 (0, 0)) :: (bs3, .cells #[.string ⟨#[97]⟩, bldVx (apL ⟨#[97]⟩ L (⟨(gt l i).s, (gt l i).c, (gt l i).ctx, ⟨#[97]⟩, (gt l i).has, (gt l i).tip⟩ : Rec)) st18] 56 (0, 0)) :: (0, g) :: ((bldMx 40 (recC) (apL ⟨#[97]⟩ L (⟨(gt l i).s, (gt l i).c, (gt l i).ctx, ⟨#[97]⟩, (gt l i).has, (gt l i).tip⟩ : Rec)) st24) ++ ((bldMx 40 (recC) (apL ⟨#[97]⟩ L (⟨(gt l i).s, (gt l i).c, (gt l i).ctx, ⟨#[97]⟩, (gt l i).has, (gt l i).tip⟩ : Rec)) st18) ++ HX))) rfl (fun a => by simp -failIfUnchanged <;> omega) ?_
              refine TE_q rfl rfl (RD.addI rfl rfl (by omega) (by omega)) rfl ?_
              refine TE_q rfl rfl (RD.move rfl) rfl ?_
              refine TE_nil0 ?_
              exact pn_againS (k + 1) (by omega) (by omega) ⟨rfl, rfl, rfl, rfl, rfl, rfl, rfl, rfl, rfl, rfl, rfl, rfl, rfl, rfl, trivial⟩ (fun a => by simp -failIfUnchanged <;> omega)
          · refine pn_exit ?_
            refine pn_plainG [] ((bs3, .cells #[.string ⟨#[97]⟩, bldVx (apL ⟨#[97]⟩ L (⟨(gt l i).s, (gt l i).c, (gt l i).ctx, ⟨#[97]⟩, (gt l i).has, (gt l i).tip⟩ : Rec)) st18] 56 (0, 0)) :: (0, g) :: ((bldMx 40 (recC) (apL ⟨#[97]⟩ L (⟨(gt l i).s, (gt l i).c, (gt l i).ctx, ⟨#[97]⟩, (gt l i).has, (gt l i).tip⟩ : Rec)) st24) ++ ((bldMx 40 (recC) (apL ⟨#[97]⟩ L (⟨(gt l i).s, (gt l i).c, (gt l i).ctx, ⟨#[97]⟩, (gt l i).has, (gt l i).tip⟩ : Rec)) st18) ++ HX))) rfl (fun a => by simp -failIfUnchanged <;> omega) ?_
            refine TE_q rfl rfl (RD.addI rfl rfl (by omega) (by omega)) rfl ?_
            refine TE_q rfl rfl (RD.move rfl) rfl ?_
            refine TE_nil0 ?_
            exact pn_againS (i1 + 1) (by omega) (by omega) ⟨rfl, rfl, rfl, rfl, rfl, rfl, rfl, rfl, rfl, trivial⟩ (fun a => by simp -failIfUnchanged <;> omega)
        · refine pn_exit ?_
          refine pn_seq ?_
          refine pn_seq ?_
          refine pn_plain [1] rfl ?_
          refine TE_q rfl rfl (RD.move rfl) rfl ?_
          refine TE_q rfl rfl (RD.lenX Tryz.runUnderlying22 rfl hRD27) rfl ?_
          refine TE_q rfl rfl (RD.eql rfl rfl) rfl ?_
          refine TE_nil0 ?_
          refine pn_condD rfl (fun hc42 => ?_) (fun hc42 => ?_)
          · refine pn_exit ?_
            refine pn_plainG [] ((bs3, .cells #[.string ⟨#[97]⟩, bldVx (apL ⟨#[97]⟩ L (⟨(gt l i).s, (gt l i).c, (gt l i).ctx, ⟨#[97]⟩, (gt l i).has, (gt l i).tip⟩ : Rec)) st18] 56 (0, 0)) :: (0, g) :: ((bldMx 40 (recC) (apL ⟨#[97]⟩ L (⟨(gt l i).s, (gt l i).c, (gt l i).ctx, ⟨#[97]⟩, (gt l i).has, (gt l i).tip⟩ : Rec)) st18) ++ HX)) rfl (fun a => by simp -failIfUnchanged <;> omega) ?_
            refine TE_q rfl rfl (RD.addI rfl rfl (by omega) (by omega)) rfl ?_
            refine TE_q rfl rfl (RD.move rfl) rfl ?_
            refine TE_nil0 ?_
            exact pn_againS ((i + 1), (apL ⟨#[97]⟩ L (⟨(gt l i).s, (gt l i).c, (gt l i).ctx, ⟨#[97]⟩, (gt l i).has, (gt l i).tip⟩ : Rec)), st18) ⟨(by omega), (hS.ap (r := (⟨(gt l i).s, (gt l i).c, (gt l i).ctx, ⟨#[97]⟩, (gt l i).has, (gt l i).tip⟩ : Rec)) ⟨((hol _ (gt_mem (by omega)))).s, ((hol _ (gt_mem (by omega)))).c, ((hol _ (gt_mem (by omega)))).ctx, ((hol _ (gt_mem (by omega)))).tip⟩), (hA.ap (r := (⟨(gt l i).s, (gt l i).c, (gt l i).ctx, ⟨#[97]⟩, (gt l i).has, (gt l i).tip⟩ : Rec))), (Nat.le_trans (apL_len (ref := ⟨#[97]⟩) (l := L) (r := (⟨(gt l i).s, (gt l i).c, (gt l i).ctx, ⟨#[97]⟩, (gt l i).has, (gt l i).tip⟩ : Rec))) (by dsimp only; omega)), hbo19, (fun e he => hX20 e (List.mem_cons_of_mem _ he))⟩ (by dsimp only; omega) ⟨rfl, rfl, rfl, rfl, rfl, trivial⟩ (fun a => by simp -failIfUnchanged <;> omega)
          · refine pn_skip ?_
            refine pn_seq ?_
            refine pn_plain [] rfl ?_
            refine TE_q rfl rfl (RD.move rfl) rfl ?_
            refine TE_callG _ ((0, g) :: (bldMx 40 (recC) (apL ⟨#[97]⟩ L (⟨(gt l i).s, (gt l i).c, (gt l i).ctx, ⟨#[97]⟩, (gt l i).has, (gt l i).tip⟩ : Rec)) st24)) rfl rfl trivial Tryz.call10 rfl rfl rfl (fun w hw => c_sibLoadT (bldMx 40 (recC) (apL ⟨#[97]⟩ L (⟨(gt l i).s, (gt l i).c, (gt l i).ctx, ⟨#[97]⟩, (gt l i).has, (gt l i).tip⟩ : Rec)) st24) (bldVx (apL ⟨#[97]⟩ L (⟨(gt l i).s, (gt l i).c, (gt l i).ctx, ⟨#[97]⟩, (gt l i).has, (gt l i).tip⟩ : Rec)) st24) (apL ⟨#[97]⟩ L (⟨(gt l i).s, (gt l i).c, (gt l i).ctx, ⟨#[97]⟩, (gt l i).has, (gt l i).tip⟩ : Rec)) g w (hRD27.mono (fun _ hw => hw.sp (fun a => by simp -failIfUnchanged <;> omega))) (hS.ap (r := (⟨(gt l i).s, (gt l i).c, (gt l i).ctx, ⟨#[97]⟩, (gt l i).has, (gt l i).tip⟩ : Rec)) ⟨((hol _ (gt_mem (by omega)))).s, ((hol _ (gt_mem (by omega)))).c, ((hol _ (gt_mem (by omega)))).ctx, ((hol _ (gt_mem (by omega)))).tip⟩).ok (fun x hx => by rw [hS3.ref x hx]; decide) (Nat.le_trans apL_len (by omega)) hg (hw.sp (fun a => by simp -failIfUnchanged <;> omega)) (sib_load hS3 hA3 (fun h => by simp [h] at *))) (fun a => by simp -failIfUnchanged <;> omega) ?_
            rintro v48 H49 ⟨bs43, st44, hbo45, rfl, rfl⟩ hX46
            have hRD47 : Rdx 52 (recC) (bldMx 40 (recC) (apL ⟨#[97]⟩ L (⟨(gt l i).s, (gt l i).c, (gt l i).ctx, ⟨#[97]⟩, (gt l i).has, (gt l i).tip⟩ : Rec)) st44) (bldVx (apL ⟨#[97]⟩ L (⟨(gt l i).s, (gt l i).c, (gt l i).ctx, ⟨#[97]⟩, (gt l i).has, (gt l i).tip⟩ : Rec)) st44) (apL ⟨#[97]⟩ L (⟨(gt l i).s, (gt l i).c, (gt l i).ctx, ⟨#[97]⟩, (gt l i).has, (gt l i).tip⟩ : Rec)) := hbo45.rdx (u := 40) recC_len
            refine TE_sp ((bs43, .cells #[.string (refL (apL ⟨#[97]⟩ L (⟨(gt l i).s, (gt l i).c, (gt l i).ctx, ⟨#[97]⟩, (gt l i).has, (gt l i).tip⟩ : Rec))), bldVx (apL ⟨#[97]⟩ L (⟨(gt l i).s, (gt l i).c, (gt l i).ctx, ⟨#[97]⟩, (gt l i).has, (gt l i).tip⟩ : Rec)) st44] 56 (0, 0)) :: (bs3, .cells #[.string ⟨#[97]⟩, bldVx (apL ⟨#[97]⟩ L (⟨(gt l i).s, (gt l i).c, (gt l i).ctx, ⟨#[97]⟩, (gt l i).has, (gt l i).tip⟩ : Rec)) st18] 56 (0, 0)) :: (0, g) :: ((bldMx 40 (recC) (apL ⟨#[97]⟩ L (⟨(gt l i).s, (gt l i).c, (gt l i).ctx, ⟨#[97]⟩, (gt l i).has, (gt l i).tip⟩ : Rec)) st44) ++ ((bldMx 40 (recC) (apL ⟨#[97]⟩ L (⟨(gt l i).s, (gt l i).c, (gt l i).ctx, ⟨#[97]⟩, (gt l i).has, (gt l i).tip⟩ : Rec)) st24) ++ ((bldMx 40 (recC) (apL ⟨#[97]⟩ L (⟨(gt l i).s, (gt l i).c, (gt l i).ctx, ⟨#[97]⟩, (gt l i).has, (gt l i).tip⟩ : Rec)) st18) ++ HX)))) (fun a => by simp -failIfUnchanged <;> omega) ?_
            refine TE_q rfl rfl (RD.move rfl) rfl ?_
            refine TE_q rfl rfl (RD.extract rfl rfl) rfl ?_
            refine TE_q rfl rfl (RD.extract rfl rfl) rfl ?_
            refine TE_q rfl rfl (RD.assign rfl) rfl ?_
            refine TE_q rfl rfl (RD.assign rfl) rfl ?_
            refine TE_nil0 ?_
            refine pn_seq ?_
            refine pn_plain [] rfl ?_
            refine TE_q rfl rfl (RD.move rfl) rfl ?_
            refine TE_q rfl rfl (RD.as (v := .bool false) (RD.neq rfl rfl) rfl) rfl ?_
            refine TE_q rfl rfl (RD.move rfl) rfl ?_
            refine TE_gq rfl rfl rfl rfl (RD.move rfl) rfl ?_
            refine TE_callG _ ((bs43, .cells #[.string (refL (apL ⟨#[97]⟩ L (⟨(gt l i).s, (gt l i).c, (gt l i).ctx, ⟨#[97]⟩, (gt l i).has, (gt l i).tip⟩ : Rec))), bldVx (apL ⟨#[97]⟩ L (⟨(gt l i).s, (gt l i).c, (gt l i).ctx, ⟨#[97]⟩, (gt l i).has, (gt l i).tip⟩ : Rec)) st44] 56 (0, 0)) :: (bldMx 40 (recC) (apL ⟨#[97]⟩ L (⟨(gt l i).s, (gt l i).c, (gt l i).ctx, ⟨#[97]⟩, (gt l i).has, (gt l i).tip⟩ : Rec)) st44)) rfl rfl ⟨_, rfl, rfl⟩ Tryz.call17 rfl rfl rfl (fun w hw => c_sibAll bs43 (refL (apL ⟨#[97]⟩ L (⟨(gt l i).s, (gt l i).c, (gt l i).ctx, ⟨#[97]⟩, (gt l i).has, (gt l i).tip⟩ : Rec))) (bldVx (apL ⟨#[97]⟩ L (⟨(gt l i).s, (gt l i).c, (gt l i).ctx, ⟨#[97]⟩, (gt l i).has, (gt l i).tip⟩ : Rec)) st44) (bldMx 40 (recC) (apL ⟨#[97]⟩ L (⟨(gt l i).s, (gt l i).c, (gt l i).ctx, ⟨#[97]⟩, (gt l i).has, (gt l i).tip⟩ : Rec)) st44) (apL ⟨#[97]⟩ L (⟨(gt l i).s, (gt l i).c, (gt l i).ctx, ⟨#[97]⟩, (gt l i).has, (gt l i).tip⟩ : Rec)) w (loadOk_ne (sib_load hS3 hA3 (fun h => by simp [h] at *))) (hRD47.mono (fun _ hw => hw.sp (fun a => by simp -failIfUnchanged <;> omega))) (hS.ap (r := (⟨(gt l i).s, (gt l i).c, (gt l i).ctx, ⟨#[97]⟩, (gt l i).has, (gt l i).tip⟩ : Rec)) ⟨((hol _ (gt_mem (by omega)))).s, ((hol _ (gt_mem (by omega)))).c, ((hol _ (gt_mem (by omega)))).ctx, ((hol _ (gt_mem (by omega)))).tip⟩).ok (Nat.le_trans apL_len (by omega)) (hw.sp (fun a => by simp -failIfUnchanged <;> omega))) (fun a => by simp -failIfUnchanged <;> omega) ?_
            rintro v54 H55 ⟨st50, hbo51, rfl, rfl⟩ hX52
            have hRD53 : Rdx 52 (recC) (bldMx 40 (recC) (apL ⟨#[97]⟩ L (⟨(gt l i).s, (gt l i).c, (gt l i).ctx, ⟨#[97]⟩, (gt l i).has, (gt l i).tip⟩ : Rec)) st50) (bldVx (apL ⟨#[97]⟩ L (⟨(gt l i).s, (gt l i).c, (gt l i).ctx, ⟨#[97]⟩, (gt l i).has, (gt l i).tip⟩ : Rec)) st50) (apL ⟨#[97]⟩ L (⟨(gt l i).s, (gt l i).c, (gt l i).ctx, ⟨#[97]⟩, (gt l i).has, (gt l i).tip⟩ : Rec)) := hbo51.rdx (u := 40) recC_len
            refine TE_sp ((bs43, .cells #[.string (refL (apL ⟨#[97]⟩ L (⟨(gt l i).s, (gt l i).c, (gt l i).ctx, ⟨#[97]⟩, (gt l i).has, (gt l i).tip⟩ : Rec))), bldVx (apL ⟨#[97]⟩ L (⟨(gt l i).s, (gt l i).c, (gt l i).ctx, ⟨#[97]⟩, (gt l i).has, (gt l i).tip⟩ : Rec)) st44] 56 (0, 0)) :: (bs3, .cells #[.string ⟨#[97]⟩, bldVx (apL ⟨#[97]⟩ L (⟨(gt l i).s, (gt l i).c, (gt l i).ctx, ⟨#[97]⟩, (gt l i).has, (gt l i).tip⟩ : Rec)) st18] 56 (0, 0)) :: (0, g) :: ((bldMx 40 (recC) (apL ⟨#[97]⟩ L (⟨(gt l i).s, (gt l i).c, (gt l i).ctx, ⟨#[97]⟩, (gt l i).has, (gt l i).tip⟩ : Rec)) st50) ++ ((bldMx 40 (recC) (apL ⟨#[97]⟩ L (⟨(gt l i).s, (gt l i).c, (gt l i).ctx, ⟨#[97]⟩, (gt l i).has, (gt l i).tip⟩ : Rec)) st44) ++ ((bldMx 40 (recC) (apL ⟨#[97]⟩ L (⟨(gt l i).s, (gt l i).c, (gt l i).ctx, ⟨#[97]⟩, (gt l i).has, (gt l i).tip⟩ : Rec)) st24) ++ ((bldMx 40 (recC) (apL ⟨#[97]⟩ L (⟨(gt l i).s, (gt l i).c, (gt l i).ctx, ⟨#[97]⟩, (gt l i).has, (gt l i).tip⟩ : Rec)) st18) ++ HX))))) (fun a => by simp -failIfUnchanged <;> omega) ?_
            refine TE_gq rfl rfl rfl rfl (RD.move rfl) rfl ?_
            refine TE_callG _ ((bldMx 40 (recC) (apL ⟨#[97]⟩ L (⟨(gt l i).s, (gt l i).c, (gt l i).ctx, ⟨#[97]⟩, (gt l i).has, (gt l i).tip⟩ : Rec)) st50) ++ (bldMx 40 (recC) (apL ⟨#[97]⟩ L (⟨(gt l i).s, (gt l i).c, (gt l i).ctx, ⟨#[97]⟩, (gt l i).has, (gt l i).tip⟩ : Rec)) st24)) rfl rfl ⟨_, rfl, rfl⟩ Tryz.call12 rfl rfl rfl (fun w hw => (by have h := c_r12Same ((bldMx 40 (recC) (apL ⟨#[97]⟩ L (⟨(gt l i).s, (gt l i).c, (gt l i).ctx, ⟨#[97]⟩, (gt l i).has, (gt l i).tip⟩ : Rec)) st50) ++ (bldMx 40 (recC) (apL ⟨#[97]⟩ L (⟨(gt l i).s, (gt l i).c, (gt l i).ctx, ⟨#[97]⟩, (gt l i).has, (gt l i).tip⟩ : Rec)) st24)) (bldVx (apL ⟨#[97]⟩ L (⟨(gt l i).s, (gt l i).c, (gt l i).ctx, ⟨#[97]⟩, (gt l i).has, (gt l i).tip⟩ : Rec)) st50) (bldVx (apL ⟨#[97]⟩ L (⟨(gt l i).s, (gt l i).c, (gt l i).ctx, ⟨#[97]⟩, (gt l i).has, (gt l i).tip⟩ : Rec)) st24) (apL ⟨#[97]⟩ L (⟨(gt l i).s, (gt l i).c, (gt l i).ctx, ⟨#[97]⟩, (gt l i).has, (gt l i).tip⟩ : Rec)) (apL ⟨#[97]⟩ L (⟨(gt l i).s, (gt l i).c, (gt l i).ctx, ⟨#[97]⟩, (gt l i).has, (gt l i).tip⟩ : Rec)) w (hRD53.mono (fun _ hw => hw.sp (fun a => by simp -failIfUnchanged <;> omega))) (hRD27.mono (fun _ hw => hw.sp (fun a => by simp -failIfUnchanged <;> omega))) (Nat.le_trans apL_len (by omega)) (hw.sp (fun a => by simp -failIfUnchanged <;> omega)); rw [show (sameLB (apL ⟨#[97]⟩ L (⟨(gt l i).s, (gt l i).c, (gt l i).ctx, ⟨#[97]⟩, (gt l i).has, (gt l i).tip⟩ : Rec)) (apL ⟨#[97]⟩ L (⟨(gt l i).s, (gt l i).c, (gt l i).ctx, ⟨#[97]⟩, (gt l i).has, (gt l i).tip⟩ : Rec))) = true from sameLB_self _] at h; exact h)) (fun a => by simp -failIfUnchanged <;> omega) ?_
            rintro v56 H57 ⟨rfl, rfl⟩ -
            refine TE_gq rfl rfl rfl rfl (RD.as (v := .bool false) (RD.not rfl) rfl) rfl ?_
            refine TE_q rfl rfl (RD.pickF rfl rfl) rfl ?_
            refine TE_q rfl rfl (RD.move rfl) rfl ?_
            refine TE_gq rfl rfl rfl rfl (RD.move rfl) rfl ?_
            refine TE_callG _ ((bs43, .cells #[.string (refL (apL ⟨#[97]⟩ L (⟨(gt l i).s, (gt l i).c, (gt l i).ctx, ⟨#[97]⟩, (gt l i).has, (gt l i).tip⟩ : Rec))), bldVx (apL ⟨#[97]⟩ L (⟨(gt l i).s, (gt l i).c, (gt l i).ctx, ⟨#[97]⟩, (gt l i).has, (gt l i).tip⟩ : Rec)) st44] 56 (0, 0)) :: (bldMx 40 (recC) (apL ⟨#[97]⟩ L (⟨(gt l i).s, (gt l i).c, (gt l i).ctx, ⟨#[97]⟩, (gt l i).has, (gt l i).tip⟩ : Rec)) st44)) rfl rfl ⟨_, rfl, rfl⟩ Tryz.call19 rfl rfl rfl (fun w hw => c_sibTips bs43 (refL (apL ⟨#[97]⟩ L (⟨(gt l i).s, (gt l i).c, (gt l i).ctx, ⟨#[97]⟩, (gt l i).has, (gt l i).tip⟩ : Rec))) (bldVx (apL ⟨#[97]⟩ L (⟨(gt l i).s, (gt l i).c, (gt l i).ctx, ⟨#[97]⟩, (gt l i).has, (gt l i).tip⟩ : Rec)) st44) (bldMx 40 (recC) (apL ⟨#[97]⟩ L (⟨(gt l i).s, (gt l i).c, (gt l i).ctx, ⟨#[97]⟩, (gt l i).has, (gt l i).tip⟩ : Rec)) st44) (apL ⟨#[97]⟩ L (⟨(gt l i).s, (gt l i).c, (gt l i).ctx, ⟨#[97]⟩, (gt l i).has, (gt l i).tip⟩ : Rec)) w (loadOk_ne (sib_load hS3 hA3 (fun h => by simp [h] at *))) (hRD47.mono (fun _ hw => hw.sp (fun a => by simp -failIfUnchanged <;> omega))) (hS.ap (r := (⟨(gt l i).s, (gt l i).c, (gt l i).ctx, ⟨#[97]⟩, (gt l i).has, (gt l i).tip⟩ : Rec)) ⟨((hol _ (gt_mem (by omega)))).s, ((hol _ (gt_mem (by omega)))).c, ((hol _ (gt_mem (by omega)))).ctx, ((hol _ (gt_mem (by omega)))).tip⟩).ok (Nat.le_trans apL_len (by omega)) (hw.sp (fun a => by simp -failIfUnchanged <;> omega))) (fun a => by simp -failIfUnchanged <;> omega) ?_
            rintro v65 H66 ⟨ts58, st60, hset59, hbo61, rfl, rfl⟩ hX62
            have hRD63 : Rdx 32 (idC) (bldMx 38 (idC) ts58 st60) (bldVx ts58 st60) ts58 := hbo61.rdx (u := 38) idC_len
            have hln64 : ts58.length ≤ ((apL ⟨#[97]⟩ L (⟨(gt l i).s, (gt l i).c, (gt l i).ctx, ⟨#[97]⟩, (gt l i).has, (gt l i).tip⟩ : Rec))).length := by have h := setOf_len hset59; rw [tipsL_len] at h; have h2 := alL_le ((apL ⟨#[97]⟩ L (⟨(gt l i).s, (gt l i).c, (gt l i).ctx, ⟨#[97]⟩, (gt l i).has, (gt l i).tip⟩ : Rec))); omega
            have hahln64 : ts58.length ≤ (alL (apL ⟨#[97]⟩ L (⟨(gt l i).s, (gt l i).c, (gt l i).ctx, ⟨#[97]⟩, (gt l i).has, (gt l i).tip⟩ : Rec))).length := by have h := setOf_len hset59; rw [tipsL_len] at h; exact h
            refine TE_sp ((bs43, .cells #[.string (refL (apL ⟨#[97]⟩ L (⟨(gt l i).s, (gt l i).c, (gt l i).ctx, ⟨#[97]⟩, (gt l i).has, (gt l i).tip⟩ : Rec))), bldVx (apL ⟨#[97]⟩ L (⟨(gt l i).s, (gt l i).c, (gt l i).ctx, ⟨#[97]⟩, (gt l i).has, (gt l i).tip⟩ : Rec)) st44] 56 (0, 0)) :: (bs3, .cells #[.string ⟨#[97]⟩, bldVx (apL ⟨#[97]⟩ L (⟨(gt l i).s, (gt l i).c, (gt l i).ctx, ⟨#[97]⟩, (gt l i).has, (gt l i).tip⟩ : Rec)) st18] 56 (0, 0)) :: (0, g) :: ((bldMx 38 (idC) ts58 st60) ++ ((bldMx 40 (recC) (apL ⟨#[97]⟩ L (⟨(gt l i).s, (gt l i).c, (gt l i).ctx, ⟨#[97]⟩, (gt l i).has, (gt l i).tip⟩ : Rec)) st50) ++ ((bldMx 40 (recC) (apL ⟨#[97]⟩ L (⟨(gt l i).s, (gt l i).c, (gt l i).ctx, ⟨#[97]⟩, (gt l i).has, (gt l i).tip⟩ : Rec)) st44) ++ ((bldMx 40 (recC) (apL ⟨#[97]⟩ L (⟨(gt l i).s, (gt l i).c, (gt l i).ctx, ⟨#[97]⟩, (gt l i).has, (gt l i).tip⟩ : Rec)) st24) ++ ((bldMx 40 (recC) (apL ⟨#[97]⟩ L (⟨(gt l i).s, (gt l i).c, (gt l i).ctx, ⟨#[97]⟩, (gt l i).has, (gt l i).tip⟩ : Rec)) st18) ++ HX)))))) (fun a => by simp -failIfUnchanged <;> omega) ?_
            refine TE_gq rfl rfl rfl rfl (RD.move rfl) rfl ?_
            refine TE_callG _ ((bs3, .cells #[.string ⟨#[97]⟩, bldVx (apL ⟨#[97]⟩ L (⟨(gt l i).s, (gt l i).c, (gt l i).ctx, ⟨#[97]⟩, (gt l i).has, (gt l i).tip⟩ : Rec)) st18] 56 (0, 0)) :: (bldMx 40 (recC) (apL ⟨#[97]⟩ L (⟨(gt l i).s, (gt l i).c, (gt l i).ctx, ⟨#[97]⟩, (gt l i).has, (gt l i).tip⟩ : Rec)) st18)) rfl rfl ⟨_, rfl, rfl⟩ Tryz.call19 rfl rfl rfl (fun w hw => c_sibTips bs3 ⟨#[97]⟩ (bldVx (apL ⟨#[97]⟩ L (⟨(gt l i).s, (gt l i).c, (gt l i).ctx, ⟨#[97]⟩, (gt l i).has, (gt l i).tip⟩ : Rec)) st18) (bldMx 40 (recC) (apL ⟨#[97]⟩ L (⟨(gt l i).s, (gt l i).c, (gt l i).ctx, ⟨#[97]⟩, (gt l i).has, (gt l i).tip⟩ : Rec)) st18) (apL ⟨#[97]⟩ L (⟨(gt l i).s, (gt l i).c, (gt l i).ctx, ⟨#[97]⟩, (gt l i).has, (gt l i).tip⟩ : Rec)) w ne97 (hRD21.mono (fun _ hw => hw.sp (fun a => by simp -failIfUnchanged <;> omega))) (hS.ap (r := (⟨(gt l i).s, (gt l i).c, (gt l i).ctx, ⟨#[97]⟩, (gt l i).has, (gt l i).tip⟩ : Rec)) ⟨((hol _ (gt_mem (by omega)))).s, ((hol _ (gt_mem (by omega)))).c, ((hol _ (gt_mem (by omega)))).ctx, ((hol _ (gt_mem (by omega)))).tip⟩).ok (Nat.le_trans apL_len (by omega)) (hw.sp (fun a => by simp -failIfUnchanged <;> omega))) (fun a => by simp -failIfUnchanged <;> omega) ?_
            rintro v74 H75 ⟨ts67, st69, hset68, hbo70, rfl, rfl⟩ hX71
            have hRD72 : Rdx 32 (idC) (bldMx 38 (idC) ts67 st69) (bldVx ts67 st69) ts67 := hbo70.rdx (u := 38) idC_len
            have hln73 : ts67.length ≤ ((apL ⟨#[97]⟩ L (⟨(gt l i).s, (gt l i).c, (gt l i).ctx, ⟨#[97]⟩, (gt l i).has, (gt l i).tip⟩ : Rec))).length := by have h := setOf_len hset68; rw [tipsL_len] at h; have h2 := alL_le ((apL ⟨#[97]⟩ L (⟨(gt l i).s, (gt l i).c, (gt l i).ctx, ⟨#[97]⟩, (gt l i).has, (gt l i).tip⟩ : Rec))); omega
            have hahln73 : ts67.length ≤ (alL (apL ⟨#[97]⟩ L (⟨(gt l i).s, (gt l i).c, (gt l i).ctx, ⟨#[97]⟩, (gt l i).has, (gt l i).tip⟩ : Rec))).length := by have h := setOf_len hset68; rw [tipsL_len] at h; exact h
            refine TE_sp ((bs43, .cells #[.string (refL (apL ⟨#[97]⟩ L (⟨(gt l i).s, (gt l i).c, (gt l i).ctx, ⟨#[97]⟩, (gt l i).has, (gt l i).tip⟩ : Rec))), bldVx (apL ⟨#[97]⟩ L (⟨(gt l i).s, (gt l i).c, (gt l i).ctx, ⟨#[97]⟩, (gt l i).has, (gt l i).tip⟩ : Rec)) st44] 56 (0, 0)) :: (bs3, .cells #[.string ⟨#[97]⟩, bldVx (apL ⟨#[97]⟩ L (⟨(gt l i).s, (gt l i).c, (gt l i).ctx, ⟨#[97]⟩, (gt l i).has, (gt l i).tip⟩ : Rec)) st18] 56 (0, 0)) :: (0, g) :: ((bldMx 38 (idC) ts67 st69) ++ ((bldMx 38 (idC) ts58 st60) ++ ((bldMx 40 (recC) (apL ⟨#[97]⟩ L (⟨(gt l i).s, (gt l i).c, (gt l i).ctx, ⟨#[97]⟩, (gt l i).has, (gt l i).tip⟩ : Rec)) st50) ++ ((bldMx 40 (recC) (apL ⟨#[97]⟩ L (⟨(gt l i).s, (gt l i).c, (gt l i).ctx, ⟨#[97]⟩, (gt l i).has, (gt l i).tip⟩ : Rec)) st44) ++ ((bldMx 40 (recC) (apL ⟨#[97]⟩ L (⟨(gt l i).s, (gt l i).c, (gt l i).ctx, ⟨#[97]⟩, (gt l i).has, (gt l i).tip⟩ : Rec)) st24) ++ ((bldMx 40 (recC) (apL ⟨#[97]⟩ L (⟨(gt l i).s, (gt l i).c, (gt l i).ctx, ⟨#[97]⟩, (gt l i).has, (gt l i).tip⟩ : Rec)) st18) ++ HX))))))) (fun a => by simp -failIfUnchanged <;> omega) ?_
            refine TE_callG _ ((bldMx 38 (idC) ts67 st69) ++ (bldMx 38 (idC) ts58 st60)) rfl rfl ⟨_, rfl, rfl⟩ Tryz.call21 rfl rfl rfl (fun w hw => (by have h := c_r3Same ((bldMx 38 (idC) ts67 st69) ++ (bldMx 38 (idC) ts58 st60)) (bldVx ts58 st60) (bldVx ts67 st69) ts58 ts67 w (hRD63.mono (fun _ hw => hw.sp (fun a => by simp -failIfUnchanged <;> omega))) (hRD72.mono (fun _ hw => hw.sp (fun a => by simp -failIfUnchanged <;> omega))) (by first | assumption | omega | (simp; omega)) (hw.sp (fun a => by simp -failIfUnchanged <;> omega)); rw [show (sameIL ts58 ts67) = true from (by rw [SetOf.uniq hset59 hset68]; exact sameIL_self _)] at h; exact h)) (fun a => by simp -failIfUnchanged <;> omega) ?_
            rintro v76 H77 ⟨rfl, rfl⟩ -
            refine TE_gq rfl rfl rfl rfl (RD.as (v := .bool false) (RD.not rfl) rfl) rfl ?_
            refine TE_q rfl rfl (RD.pickF rfl rfl) rfl ?_
            refine TE_nil0 ?_
            refine pn_condF rfl ?_
            refine pn_skip ?_
            refine pn_plainG [] ((bs3, .cells #[.string ⟨#[97]⟩, bldVx (apL ⟨#[97]⟩ L (⟨(gt l i).s, (gt l i).c, (gt l i).ctx, ⟨#[97]⟩, (gt l i).has, (gt l i).tip⟩ : Rec)) st18] 56 (0, 0)) :: (0, g) :: ((bldMx 40 (recC) (apL ⟨#[97]⟩ L (⟨(gt l i).s, (gt l i).c, (gt l i).ctx, ⟨#[97]⟩, (gt l i).has, (gt l i).tip⟩ : Rec)) st18) ++ HX)) rfl (fun a => by simp -failIfUnchanged <;> omega) ?_
            refine TE_q rfl rfl (RD.addI rfl rfl (by omega) (by omega)) rfl ?_
            refine TE_q rfl rfl (RD.move rfl) rfl ?_
            refine TE_nil0 ?_
            exact pn_againS ((i + 1), (apL ⟨#[97]⟩ L (⟨(gt l i).s, (gt l i).c, (gt l i).ctx, ⟨#[97]⟩, (gt l i).has, (gt l i).tip⟩ : Rec)), st18) ⟨(by omega), (hS.ap (r := (⟨(gt l i).s, (gt l i).c, (gt l i).ctx, ⟨#[97]⟩, (gt l i).has, (gt l i).tip⟩ : Rec)) ⟨((hol _ (gt_mem (by omega)))).s, ((hol _ (gt_mem (by omega)))).c, ((hol _ (gt_mem (by omega)))).ctx, ((hol _ (gt_mem (by omega)))).tip⟩), (hA.ap (r := (⟨(gt l i).s, (gt l i).c, (gt l i).ctx, ⟨#[97]⟩, (gt l i).has, (gt l i).tip⟩ : Rec))), (Nat.le_trans (apL_len (ref := ⟨#[97]⟩) (l := L) (r := (⟨(gt l i).s, (gt l i).c, (gt l i).ctx, ⟨#[97]⟩, (gt l i).has, (gt l i).tip⟩ : Rec))) (by dsimp only; omega)), hbo19, (fun e he => hX20 e (List.mem_cons_of_mem _ he))⟩ (by dsimp only; omega) ⟨rfl, rfl, rfl, rfl, rfl, trivial⟩ (fun a => by simp -failIfUnchanged <;> omega)
    · refine pn_exit ?_
      refine pn_seq ?_
      refine pn_plainG [] [(0, g)] rfl (fun a => by simp -failIfUnchanged <;> omega) ?_
      refine TE_q rfl rfl (RD.move rfl) rfl ?_
      refine TE_q rfl rfl (RD.assign rfl) rfl ?_
      refine TE_nil0 ?_
      refine pn_ret ?_
      exact pn_doneS [] rfl rfl ⟨rfl, rfl⟩ (fun _ => Nat.zero_le _) (fun _ he => nomatch he)

end Go.Proofs.YtaakjgmehbbgfaaGreatDoor
