import Derived.Test.YtmjmaloapafnlaaGreatDoorGaz
import Derived.Test.YtmjmaloapafnlaaGreatDoorRows
import Derived.Lib.LaidTab
import Derived.LaidSub
namespace Go.Proofs.YtmjmaloapafnlaaGreatDoor
open Go.Proofs.Tryz
open Go Go.Mv
set_option maxRecDepth 8000
theorem ndE {p : Prop} [Decidable p] : ((!decide p) = true) = ¬ p := by simp

set_option maxHeartbeats 8000000 in
theorem c_StoreRoom (qt : Int) (lv : Value) (l : List OpM) (HX : Mem) (w : World) (hbl : Rdx 2 (opC) ((0, .cells (wfV 8 (s8f shaB)).cells 130 (0, 0)) :: (1, .cells (wfV 64 (gtf shaK)).cells 257 (0, 0)) :: HX) lv l) (hbkl : OpsOk ((0, .cells (wfV 8 (s8f shaB)).cells 130 (0, 0)) :: (1, .cells (wfV 64 (gtf shaK)).cells 257 (0, 0)) :: HX) l) (hll : l.length ≤ 9223372036854775807 ∧ ∀ o ∈ l, o.l.length ≤ 9223372036854775807) (hH : Hp ((0, .cells (wfV 8 (s8f shaB)).cells 130 (0, 0)) :: (1, .cells (wfV 64 (gtf shaK)).cells 257 (0, 0)) :: HX) w) : Calls Tryz.prog 3 #[.int .i64 qt, lv] w (Ret w [] fun v H1 => v = .bool true ∧ H1 = []) := by
 refine fn_enter (args := [_, _]) func3 rfl ntmps3 rfl hH (sq (pl (qa rfl (n0 (sq (pl (cG rfl call15 (fun w hw => c_alive8  w  hw.s) ?_)))))))
 rintro v1 H2 ⟨rfl, rfl⟩ -
 refine qa rfl (n0 (sq (pl (qm rfl (cG rfl call16 (fun w hw => c_stNew qt w  hw.s) ?_)))))
 rintro v9 H10 (⟨hq3, rfl, rfl⟩ | ⟨hq4, s5, mb6, rfl, rfl⟩) hX11
 ·refine qm rfl (qe rfl (qe rfl (qa rfl (qa rfl (n0 (sq (sq (pl (qm rfl ?_)))))))))
  refine cG rfl call17 (fun w hw => c_great8 lv l ((0, .cells (wfV 8 (s8f shaB)).cells 130 (0, 0)) :: (1, .cells (wfV 64 (gtf shaK)).cells 257 (0, 0)) :: HX) w hbl.s (fun x hx => ⟨(hbkl x hx).1.mono sb, (hbkl x hx).2.mono sb⟩) hll hw.s) ?_
  rintro v12 H13 ⟨rfl, rfl⟩ -
  refine qm rfl (TE_join (σ := Unit) (fun _ => [(1, lv), (5, .bool true), (6, .pointer none), (37, .bool true)]) (fun _ => ((0, .cells (wfV 8 (s8f shaB)).cells 130 (0, 0)) :: (1, .cells (wfV 64 (gtf shaK)).cells 257 (0, 0)) :: HX)) (fun _ => True) ?_ ?_)
  ·refine TE_bool (fun hf14 => ?_) (fun hf14 => ?_)
   ·refine qs rfl (qs rfl (qT rfl (qm rfl (qs rfl (qs rfl (qT rfl (qm rfl (qs rfl (qs rfl ?_)))))))))
    exact qs rfl (qs rfl (qT rfl (n0 (pn_give () trivial ⟨rfl, rfl, rfl, rfl, trivial⟩ sb))))
   ·refine qg rfl (TE_gq rfl rfl rfl rfl (RD.as (v := .bool true) (RD.neq rfl rfl) rfl) rfl (qF rfl (qm rfl (qs rfl (qs rfl (qT rfl (qm rfl (qs rfl (qs rfl ?_)))))))))
    exact qs rfl (qs rfl (qT rfl (n0 (pn_give () trivial ⟨rfl, rfl, rfl, rfl, trivial⟩ sb))))
  rintro _ -
  exact pn_condT rfl (sq (plG [] [(0, .cells (wfV 8 (s8f shaB)).cells 130 (0, 0)), (1, .cells (wfV 64 (gtf shaK)).cells 257 (0, 0))] (qm rfl (qa rfl (n0 (rt (pn_doneS [] rfl rfl ⟨rfl, rfl⟩ (fun _ => Nat.zero_le _) (fun _ he => nomatch he))))))))
 ·have hst8 : StOk (⟨qt, 0, [], 0⟩ : St8) := st0_ok hq4; refine TE_sp ((s5, .cells #[.int .i64 ((⟨qt, 0, [], 0⟩ : St8).q), .int .i64 ((⟨qt, 0, [], 0⟩ : St8).sz), .map (some mb6)] 87 (0, 0)) :: (mb6, mapO keyV en8V ((⟨qt, 0, [], 0⟩ : St8).l) ((⟨qt, 0, [], 0⟩ : St8).c)) :: (0, .cells (wfV 8 (s8f shaB)).cells 130 (0, 0)) :: (1, .cells (wfV 64 (gtf shaK)).cells 257 (0, 0)) :: HX) (fun a => by simp -failIfUnchanged <;> omega) ?_
  refine qm rfl (qe rfl (qe rfl (qa rfl (qa rfl (n0 (sq (sq (pl (qm rfl ?_)))))))))
  refine cG rfl call17 (fun w hw => c_great8 lv l ((0, .cells (wfV 8 (s8f shaB)).cells 130 (0, 0)) :: (1, .cells (wfV 64 (gtf shaK)).cells 257 (0, 0)) :: HX) w hbl.s (fun x hx => ⟨(hbkl x hx).1.mono sb, (hbkl x hx).2.mono sb⟩) hll hw.s) ?_
  rintro v15 H16 ⟨rfl, rfl⟩ -
  refine qm rfl (TE_join (σ := Unit) (fun _ => [(1, lv), (5, .bool true), (6, .pointer (some ⟨s5, 0, none⟩)), (37, .bool ((greatOps l) || (decide (0 < (clashI (textsB l))))))]) (fun _ => ((s5, .cells #[.int .i64 ((⟨qt, 0, [], 0⟩ : St8).q), .int .i64 ((⟨qt, 0, [], 0⟩ : St8).sz), .map (some mb6)] 87 (0, 0)) :: (mb6, mapO keyV en8V ((⟨qt, 0, [], 0⟩ : St8).l) ((⟨qt, 0, [], 0⟩ : St8).c)) :: (0, .cells (wfV 8 (s8f shaB)).cells 130 (0, 0)) :: (1, .cells (wfV 64 (gtf shaK)).cells 257 (0, 0)) :: HX)) (fun _ => True) ?_ ?_)
  ·refine TE_bool (fun hf17 => ?_) (fun hf17 => ?_)
   ·refine qs rfl (qs rfl (qT rfl (qm rfl (qs rfl (qs rfl (qT rfl (qm rfl (qs rfl (qs rfl ?_)))))))))
    exact qs rfl (qs rfl (qT rfl (n0 (pn_give () trivial ⟨rfl, rfl, rfl, congrArg (fun b => some (Value.bool b)) (by first | (simp [hf17]; done) | (simp only [hf17]; rfl) | (simp only [hf17]; simp; done)), trivial⟩ sb))))
   ·refine qg rfl (TE_gq rfl rfl rfl rfl (RD.as (v := .bool false) (RD.neq rfl rfl) rfl) rfl (qF rfl (qm rfl (qg rfl (TE_gq rfl rfl rfl rfl (RD.as (v := .bool false) (RD.not rfl) rfl) rfl (qF rfl (qm rfl (qg rfl (cG rfl call19 (fun w hw => c_texts8 lv l ((0, .cells (wfV 8 (s8f shaB)).cells 130 (0, 0)) :: (1, .cells (wfV 64 (gtf shaK)).cells 257 (0, 0)) :: HX) w hbl.s (fun x hx => ⟨(hbkl x hx).1.mono sb, (hbkl x hx).2.mono sb⟩) hll hf17 hw.s) ?_)))))))))
    rintro v22 H23 ⟨st18, hbo19, rfl, rfl⟩ hX20
    have hRD21 := hbo19.rdx (u := 32) bsC_len
    refine tsp ((s5, .cells #[.int .i64 ((⟨qt, 0, [], 0⟩ : St8).q), .int .i64 ((⟨qt, 0, [], 0⟩ : St8).sz), .map (some mb6)] 87 (0, 0)) :: (mb6, mapO keyV en8V ((⟨qt, 0, [], 0⟩ : St8).l) ((⟨qt, 0, [], 0⟩ : St8).c)) :: (0, .cells (wfV 8 (s8f shaB)).cells 130 (0, 0)) :: (1, .cells (wfV 64 (gtf shaK)).cells 257 (0, 0)) :: ((bldMx 32 (bsC) (textsB l) st18) ++ HX)) (cG rfl call18 (fun w hw => c_clash8 (bldVx (textsB l) st18) (textsB l) ((0, .cells (wfV 8 (s8f shaB)).cells 130 (0, 0)) :: (1, .cells (wfV 64 (gtf shaK)).cells 257 (0, 0)) :: ((bldMx 32 (bsC) (textsB l) st18) ++ HX)) w hRD21.s ((textsB_ok hbkl).mono sb) (Nat.le_trans (textsB_le hf17) (by decide)) (fun x hx => Nat.le_trans (textsB_b hf17 x hx) (by decide)) hw.s) ?_)
    rintro v24 H25 ⟨rfl, rfl⟩ -
    exact TE_gq rfl rfl rfl rfl (RD.gtr rfl rfl) rfl (qF rfl (n0 (pn_give () trivial ⟨rfl, rfl, rfl, congrArg (fun b => some (Value.bool b)) (by first | (simp [hf17]; done) | (simp only [hf17]; rfl) | (simp only [hf17]; simp; done)), trivial⟩ sb)))
  rintro _ -
  refine pn_cond rfl (fun hc26 => ?_) (fun hc26 => ?_)
  ·simp only [Bool.or_eq_true, decide_eq_true_eq] at hc26
   exact sq (plG [] [(0, .cells (wfV 8 (s8f shaB)).cells 130 (0, 0)), (1, .cells (wfV 64 (gtf shaK)).cells 257 (0, 0))] (qm rfl (qa rfl (n0 (rt (pn_doneS [] rfl rfl ⟨rfl, rfl⟩ (fun _ => Nat.zero_le _) (fun _ he => nomatch he)))))))
  ·simp only [Bool.or_eq_false_iff, decide_eq_false_iff_not] at hc26
   have hgr := hc26.1; have hcl := clashI_0 hc26.2
   refine sk (sq (sq (pn_plain [2] rfl (qm rfl (cG rfl call19 (fun w hw => c_texts8 lv l ((0, .cells (wfV 8 (s8f shaB)).cells 130 (0, 0)) :: (1, .cells (wfV 64 (gtf shaK)).cells 257 (0, 0)) :: HX) w hbl.s (fun x hx => ⟨(hbkl x hx).1.mono sb, (hbkl x hx).2.mono sb⟩) hll hgr hw.s) ?_)))))
   rintro v31 H32 ⟨st27, hbo28, rfl, rfl⟩ hX29
   have hRD30 := hbo28.rdx (u := 32) bsC_len
   refine tsp ((s5, .cells #[.int .i64 ((⟨qt, 0, [], 0⟩ : St8).q), .int .i64 ((⟨qt, 0, [], 0⟩ : St8).sz), .map (some mb6)] 87 (0, 0)) :: (mb6, mapO keyV en8V ((⟨qt, 0, [], 0⟩ : St8).l) ((⟨qt, 0, [], 0⟩ : St8).c)) :: (0, .cells (wfV 8 (s8f shaB)).cells 130 (0, 0)) :: (1, .cells (wfV 64 (gtf shaK)).cells 257 (0, 0)) :: ((bldMx 32 (bsC) (textsB l) st27) ++ HX)) (qq rfl (RD.lenX runUnderlying30 rfl hRD30) (qm rfl (n0 (pn_block ?_))))
   have htl := textsB_le hgr
   refine lpS (σ := Nat × St8) (fun q => [(5, .bool true), (6, .pointer (some ⟨s5, 0, none⟩)), (40, bldVx (textsB l) st27), (41, .int .i64 ((textsB l).length : Int)), (42, .int .i64 (q.1 : Int))]) (fun q => ((s5, .cells #[.int .i64 q.2.q, .int .i64 q.2.sz, .map (some mb6)] 87 (0, 0)) :: (mb6, mapO keyV en8V q.2.l q.2.c) :: (0, .cells (wfV 8 (s8f shaB)).cells 130 (0, 0)) :: (1, .cells (wfV 64 (gtf shaK)).cells 257 (0, 0)) :: ((bldMx 32 (bsC) (textsB l) st27) ++ HX))) (fun q => (q.1 ≤ (textsB l).length) ∧ (StOk q.2) ∧ (q.2 = puts8 (⟨qt, 0, [], 0⟩ : St8) (((textsB l).take q.1).map (·.b))) ∧ (q.2.l.length ≤ q.1)) (fun q => (textsB l).length - q.1) (0, (⟨qt, 0, [], 0⟩ : St8)) ⟨(by omega), hst8, rfl, (Nat.le_refl _)⟩ ⟨rfl, rfl, rfl, rfl, rfl, trivial⟩ ?_
   rintro ⟨i, m⟩ ⟨hi, hsm, hm, hmn⟩
   dsimp only at hi hsm hm hmn ⊢
   have hsm0 := hsm.s0; have hsm1 := hsm.sq; have hsm2 := hsm.q
   have hmn2 := hsm.n
   refine sq (pl (qq rfl (RD.lss rfl rfl) (n0 (sq (pn_condD rfl (fun hc33 => ?_) (fun hc33 => ?_))))))
   ·refine sk (sq (pn_block (sq (pl (qq rfl (RD.idxR (i := i) (o := (i * 1 + 0)) runUnderlying30 sizeOf32 rfl hRD30 rfl rfl (by omega) (by rfl)) (ql rfl (RD.ldR (i := i) (j := 0) (u := (BSl.v (gt (textsB l) i))) isAgg32 rfl hRD30 (gt_some (by omega)) (by rfl) rfl sb) (qa rfl (n0 (sq ?_)))))))))
    refine pl (qm rfl (qm rfl (TE_buildSlice (cells := #[(BSl.v (gt (textsB l) i))]) rfl runUnderlying30 sizeOf32 zeroValue32 rfl rfl rfl (by obtain ⟨a0, c0, e0⟩ := (((textsB_ok hbkl) (gt (textsB l) i) (gt_mem (by omega)))).shape; rw [e0]; kernel_rfl) trivial rfl fun b49 hb49 => (cG rfl call21 (fun w hw => c_hashOf b49 (BSl.v (gt (textsB l) i)) ((gt (textsB l) i).b) HX w (((textsB_ok hbkl) (gt (textsB l) i) (gt_mem (by omega))).mono sb) (Nat.le_trans (textsB_b hgr _ (gt_mem (by omega))) (by decide)) hw.s) ?_))))
    rintro v34 H35 ⟨rfl, rfl⟩ -
    refine cG rfl call20 (fun w hw => c_stGet s5 mb6 m (shaF ((gt (textsB l) i).b)) w hsm (shaF_ok _) hw.s) ?_
    rintro v40 H41 ⟨st36, hbo37, rfl, rfl⟩ hX38
    have hRD39 := hbo37.rdx (u := 5) byteC_len
    refine tsp ((b49, .cells #[(BSl.v (gt (textsB l) i))] 32 (0, 0)) :: (s5, .cells #[.int .i64 m.q, .int .i64 m.sz, .map (some mb6)] 87 (0, 0)) :: (mb6, mapO keyV en8V m.l m.c) :: (0, .cells (wfV 8 (s8f shaB)).cells 130 (0, 0)) :: (1, .cells (wfV 64 (gtf shaK)).cells 257 (0, 0)) :: ((bldMx 5 (byteC) ((get8 m (kOf (shaF ((gt (textsB l) i).b)))).raw.data.toList) st36) ++ ((bldMx 32 (bsC) (textsB l) st27) ++ HX))) (qm rfl (qe rfl (qe rfl (qa rfl (qa rfl (n0 (sq (plG [] ((s5, .cells #[.int .i64 m.q, .int .i64 m.sz, .map (some mb6)] 87 (0, 0)) :: (mb6, mapO keyV en8V m.l m.c) :: (0, .cells (wfV 8 (s8f shaB)).cells 130 (0, 0)) :: (1, .cells (wfV 64 (gtf shaK)).cells 257 (0, 0)) :: ((bldMx 32 (bsC) (textsB l) st27) ++ HX)) (qm rfl ?_)))))))))
    refine cG rfl call22 (fun w hw => c_stLeft s5 mb6 m w hsm hw.s) ?_
    rintro v42 H43 ⟨rfl, rfl⟩ -
    refine qm rfl (cG rfl call23 (fun w hw => c_stLen s5 mb6 m w hsm hw.s) ?_)
    rintro v44 H45 ⟨rfl, rfl⟩ -
    refine qa rfl (qa rfl (n0 (sq (pl (qm rfl (qm rfl (cM [(s5, .cells #[.int .i64 m.q, .int .i64 m.sz, .map (some mb6)] 87 (0, 0)), (mb6, mapO keyV en8V m.l m.c)] ((0, .cells (wfV 8 (s8f shaB)).cells 130 (0, 0)) :: (1, .cells (wfV 64 (gtf shaK)).cells 257 (0, 0)) :: ((bldMx 32 (bsC) (textsB l) st27) ++ HX)) rfl call24 (ownC (.inl (hX11 _ List.mem_cons_self)) (ownC (.inl (hX11 _ (List.mem_cons_of_mem _ List.mem_cons_self))) own0)) (fun w hw => c_stPut s5 mb6 m (BSl.v (gt (textsB l) i)) ((gt (textsB l) i).b) HX w hsm (((textsB_ok hbkl) (gt (textsB l) i) (gt_mem (by omega))).mono sb) (Nat.le_trans (textsB_b hgr _ (gt_mem (by omega))) (by decide)) hw.s) ?_)))))))
    rintro v48 H49 ⟨rfl, rfl⟩ hX46
    have hst47 := put8_ok (b := ((gt (textsB l) i).b)) hsm (by have h9 := textsB_le hgr; omega) (Nat.le_trans (textsB_b hgr _ (gt_mem (by omega))) (by decide))
    refine tsp ((s5, .cells #[.int .i64 (((put8 m ((gt (textsB l) i).b)).1).q), .int .i64 (((put8 m ((gt (textsB l) i).b)).1).sz), .map (some mb6)] 87 (0, 0)) :: (mb6, mapO keyV en8V (((put8 m ((gt (textsB l) i).b)).1).l) (((put8 m ((gt (textsB l) i).b)).1).c)) :: (0, .cells (wfV 8 (s8f shaB)).cells 130 (0, 0)) :: (1, .cells (wfV 64 (gtf shaK)).cells 257 (0, 0)) :: ((bldMx 32 (bsC) (textsB l) st27) ++ HX)) (qm rfl (qe rfl (qe rfl (TE_allocC (idV (fun _ => 0)).cells rfl zeroValue36 rfl trivial rfl fun b14 hb14 => (TE_putCW 0 _ _ ((b14, .cells (idV ((put8 m ((gt (textsB l) i).b)).2.1)).cells 36 (0, 0)) :: (s5, .cells #[.int .i64 (((put8 m ((gt (textsB l) i).b)).1).q), .int .i64 (((put8 m ((gt (textsB l) i).b)).1).sz), .map (some mb6)] 87 (0, 0)) :: (mb6, mapO keyV en8V (((put8 m ((gt (textsB l) i).b)).1).l) (((put8 m ((gt (textsB l) i).b)).1).c)) :: (0, .cells (wfV 8 (s8f shaB)).cells 130 (0, 0)) :: (1, .cells (wfV 64 (gtf shaK)).cells 257 (0, 0)) :: ((bldMx 32 (bsC) (textsB l) st27) ++ HX)) rfl sizeOf36 trivial rfl rfl rfl rfl rfl rfl rfl rfl (.inl hb14) (qa rfl (n0 (pn_block (sq ?_)))))))))
    refine plG [] ((s5, .cells #[.int .i64 (((put8 m ((gt (textsB l) i).b)).1).q), .int .i64 (((put8 m ((gt (textsB l) i).b)).1).sz), .map (some mb6)] 87 (0, 0)) :: (mb6, mapO keyV en8V (((put8 m ((gt (textsB l) i).b)).1).l) (((put8 m ((gt (textsB l) i).b)).1).c)) :: (0, .cells (wfV 8 (s8f shaB)).cells 130 (0, 0)) :: (1, .cells (wfV 64 (gtf shaK)).cells 257 (0, 0)) :: ((bldMx 32 (bsC) (textsB l) st27) ++ HX)) (qm rfl (cG rfl call25 (fun w hw => c_obKind (BSl.v (gt (textsB l) i)) ((gt (textsB l) i).b) ((0, .cells (wfV 8 (s8f shaB)).cells 130 (0, 0)) :: (1, .cells (wfV 64 (gtf shaK)).cells 257 (0, 0)) :: HX) w (((textsB_ok hbkl) (gt (textsB l) i) (gt_mem (by omega))).mono sb) (Nat.le_trans (textsB_b hgr _ (gt_mem (by omega))) (by decide)) hw.s) ?_))
    rintro v50 H51 ⟨rfl, rfl⟩ -
    refine qq rfl (RD.eql rfl rfl) (qa rfl (n0 (pn_condD rfl (fun hc52 => ?_) (fun hc52 => ?_))))
    ·refine sq (pl (qm rfl (qq rfl (RD.neq rfl rfl) (qm rfl (TE_join (σ := Unit) (fun _ => [(5, .bool true), (6, .pointer (some ⟨s5, 0, none⟩)), (40, bldVx (textsB l) st27), (41, .int .i64 ((textsB l).length : Int)), (42, .int .i64 (i : Int)), (93, .bool ((!decide (((put8 m ((gt (textsB l) i).b)).2.2) = 70)) || (!decide ((((put8 m ((gt (textsB l) i).b)).1).q - ((put8 m ((gt (textsB l) i).b)).1).sz) = (m.q - m.sz)))))]) (fun _ => ((s5, .cells #[.int .i64 (((put8 m ((gt (textsB l) i).b)).1).q), .int .i64 (((put8 m ((gt (textsB l) i).b)).1).sz), .map (some mb6)] 87 (0, 0)) :: (mb6, mapO keyV en8V (((put8 m ((gt (textsB l) i).b)).1).l) (((put8 m ((gt (textsB l) i).b)).1).c)) :: (0, .cells (wfV 8 (s8f shaB)).cells 130 (0, 0)) :: (1, .cells (wfV 64 (gtf shaK)).cells 257 (0, 0)) :: ((bldMx 32 (bsC) (textsB l) st27) ++ HX))) (fun _ => True) ?_ ?_)))))
     ·refine TE_ndec (fun hf53 => ?_) (fun hf53 => ?_)
      ·exact qs rfl (qs rfl (qs rfl (qs rfl (qT rfl (n0 (pn_give () trivial ⟨rfl, rfl, rfl, rfl, rfl, congrArg (fun b => some (Value.bool b)) (by first | (simp [hf53]; done) | (simp only [decide_eq_false hf53]; rfl) | (simp only [decide_eq_false hf53]; simp; done)), trivial⟩ sb))))))
      ·refine qg rfl (cG rfl call22 (fun w hw => c_stLeft s5 mb6 ((put8 m ((gt (textsB l) i).b)).1) w hst47 hw.s) ?_)
       rintro v54 H55 ⟨rfl, rfl⟩ -
       exact qg rfl (TE_gq rfl rfl rfl rfl (RD.neq rfl rfl) rfl (qF rfl (n0 (pn_give () trivial ⟨rfl, rfl, rfl, rfl, rfl, congrArg (fun b => some (Value.bool b)) (by first | (simp [hf53]; done) | (simp only [decide_eq_true hf53]; rfl) | (simp only [decide_eq_true hf53]; simp; done)), trivial⟩ sb))))
     rintro _ -
     refine pn_cond rfl (fun hc56 => ?_) (fun hc56 => ?_)
     ·exfalso
      have ⟨q1, q2, q3⟩ := room_0 (m := m) hc52; simp only [Bool.or_eq_true, Bool.not_eq_true', decide_eq_false_iff_not, ndE] at hc56; omega
     ·simp only [Bool.not_eq_false', Bool.or_eq_false_iff, decide_eq_true_eq] at hc56
      exact sk (pl (qq rfl (RD.addI rfl rfl (by omega) (by omega)) (qm rfl (n0 (agS ((i + 1), (put8 m ((gt (textsB l) i).b)).1) ⟨(by omega), hst47, (by rw [puts8_next (by omega), ← hm]), (show (put8 m (gt (textsB l) i).b).1.l.length ≤ i + 1 from Nat.le_trans put8_len (by omega))⟩ (by dsimp only; omega) ⟨rfl, rfl, rfl, rfl, rfl, trivial⟩)))))
    ·refine sq (pl (qm rfl (qa rfl (n0 (pn_cond rfl (fun hc57 => ?_) (fun hc57 => ?_))))))
     ·refine sq (pl (qm rfl (qq rfl (RD.neq rfl rfl) (qm rfl (TE_join (σ := Unit) (fun _ => [(5, .bool true), (6, .pointer (some ⟨s5, 0, none⟩)), (40, bldVx (textsB l) st27), (41, .int .i64 ((textsB l).length : Int)), (42, .int .i64 (i : Int)), (109, .bool ((!decide (((put8 m ((gt (textsB l) i).b)).2.2) = 0)) || ((!decide ((((put8 m ((gt (textsB l) i).b)).1).q - ((put8 m ((gt (textsB l) i).b)).1).sz) = (m.q - m.sz))) || (!decide ((((put8 m ((gt (textsB l) i).b)).1).l.length : Int) = (m.l.length : Int))))))]) (fun _ => ((s5, .cells #[.int .i64 (((put8 m ((gt (textsB l) i).b)).1).q), .int .i64 (((put8 m ((gt (textsB l) i).b)).1).sz), .map (some mb6)] 87 (0, 0)) :: (mb6, mapO keyV en8V (((put8 m ((gt (textsB l) i).b)).1).l) (((put8 m ((gt (textsB l) i).b)).1).c)) :: (0, .cells (wfV 8 (s8f shaB)).cells 130 (0, 0)) :: (1, .cells (wfV 64 (gtf shaK)).cells 257 (0, 0)) :: ((bldMx 32 (bsC) (textsB l) st27) ++ HX))) (fun _ => True) ?_ ?_)))))
      ·refine TE_ndec (fun hf58 => ?_) (fun hf58 => ?_)
       ·refine qs rfl (qs rfl (qs rfl (qs rfl (qT rfl (qm rfl (qs rfl (qs rfl (qs rfl (qs rfl ?_)))))))))
        exact qT rfl (n0 (pn_give () trivial ⟨rfl, rfl, rfl, rfl, rfl, congrArg (fun b => some (Value.bool b)) (by first | (simp [hf58]; done) | (simp only [decide_eq_false hf58]; rfl) | (simp only [decide_eq_false hf58]; simp; done)), trivial⟩ sb))
       ·refine qg rfl (cG rfl call22 (fun w hw => c_stLeft s5 mb6 ((put8 m ((gt (textsB l) i).b)).1) w hst47 hw.s) ?_)
        rintro v59 H60 ⟨rfl, rfl⟩ -
        refine qg rfl (TE_gq rfl rfl rfl rfl (RD.neq rfl rfl) rfl (qF rfl (qm rfl (TE_ndec (fun hf61 => ?_) (fun hf61 => ?_)))))
        ·exact qs rfl (qs rfl (qs rfl (qs rfl (qT rfl (n0 (pn_give () trivial ⟨rfl, rfl, rfl, rfl, rfl, congrArg (fun b => some (Value.bool b)) (by first | (simp [hf58, hf61]; done) | (simp only [decide_eq_true hf58, decide_eq_false hf61]; rfl) | (simp only [decide_eq_true hf58, decide_eq_false hf61]; simp; done)), trivial⟩ sb))))))
        ·refine qg rfl (cG rfl call23 (fun w hw => c_stLen s5 mb6 ((put8 m ((gt (textsB l) i).b)).1) w hst47 hw.s) ?_)
         rintro v62 H63 ⟨rfl, rfl⟩ -
         exact qg rfl (TE_gq rfl rfl rfl rfl (RD.neq rfl rfl) rfl (qF rfl (n0 (pn_give () trivial ⟨rfl, rfl, rfl, rfl, rfl, congrArg (fun b => some (Value.bool b)) (by first | (simp [hf58, hf61]; done) | (simp only [decide_eq_true hf58, decide_eq_true hf61]; rfl) | (simp only [decide_eq_true hf58, decide_eq_true hf61]; simp; done)), trivial⟩ sb))))
      rintro _ -
      refine pn_cond rfl (fun hc64 => ?_) (fun hc64 => ?_)
      ·exfalso
       have ⟨q1, q2, q3⟩ := room_is (m := m) hc52 hc57 (by rw [hm] at hc57 ⊢; exact has8_same hcl (by omega) hc57); simp only [Bool.or_eq_true, Bool.not_eq_true', decide_eq_false_iff_not, ndE] at hc64; omega
      ·simp only [Bool.not_eq_false', Bool.or_eq_false_iff, decide_eq_true_eq] at hc64
       exact sk (pl (qq rfl (RD.addI rfl rfl (by omega) (by omega)) (qm rfl (n0 (agS ((i + 1), (put8 m ((gt (textsB l) i).b)).1) ⟨(by omega), hst47, (by rw [puts8_next (by omega), ← hm]), (show (put8 m (gt (textsB l) i).b).1.l.length ≤ i + 1 from Nat.le_trans put8_len (by omega))⟩ (by dsimp only; omega) ⟨rfl, rfl, rfl, rfl, rfl, trivial⟩)))))
     ·refine sq (pn_plain [1] rfl (qm rfl (qq rfl (RD.lenR runUnderlying32 rfl ((textsB_ok hbkl) (gt (textsB l) i) (gt_mem (by omega)))) (qm rfl (qq rfl (RD.gtr rfl rfl) (qa rfl (n0 (pn_condD rfl (fun hc65 => ?_) (fun hc65 => ?_)))))))))
      ·refine sq (pl (qm rfl (qq rfl (RD.neq rfl rfl) (qm rfl (TE_join (σ := Unit) (fun _ => [(5, .bool true), (6, .pointer (some ⟨s5, 0, none⟩)), (40, bldVx (textsB l) st27), (41, .int .i64 ((textsB l).length : Int)), (42, .int .i64 (i : Int)), (128, .bool ((!decide (((put8 m ((gt (textsB l) i).b)).2.2) = 81)) || ((!decide ((((put8 m ((gt (textsB l) i).b)).1).q - ((put8 m ((gt (textsB l) i).b)).1).sz) = (m.q - m.sz))) || (!decide ((((put8 m ((gt (textsB l) i).b)).1).l.length : Int) = (m.l.length : Int))))))]) (fun _ => ((s5, .cells #[.int .i64 (((put8 m ((gt (textsB l) i).b)).1).q), .int .i64 (((put8 m ((gt (textsB l) i).b)).1).sz), .map (some mb6)] 87 (0, 0)) :: (mb6, mapO keyV en8V (((put8 m ((gt (textsB l) i).b)).1).l) (((put8 m ((gt (textsB l) i).b)).1).c)) :: (0, .cells (wfV 8 (s8f shaB)).cells 130 (0, 0)) :: (1, .cells (wfV 64 (gtf shaK)).cells 257 (0, 0)) :: ((bldMx 32 (bsC) (textsB l) st27) ++ HX))) (fun _ => True) ?_ ?_)))))
       ·refine TE_ndec (fun hf66 => ?_) (fun hf66 => ?_)
        ·refine qs rfl (qs rfl (qs rfl (qs rfl (qT rfl (qm rfl (qs rfl (qs rfl (qs rfl (qs rfl ?_)))))))))
         exact qT rfl (n0 (pn_give () trivial ⟨rfl, rfl, rfl, rfl, rfl, congrArg (fun b => some (Value.bool b)) (by first | (simp [hf66]; done) | (simp only [decide_eq_false hf66]; rfl) | (simp only [decide_eq_false hf66]; simp; done)), trivial⟩ sb))
        ·refine qg rfl (cG rfl call22 (fun w hw => c_stLeft s5 mb6 ((put8 m ((gt (textsB l) i).b)).1) w hst47 hw.s) ?_)
         rintro v67 H68 ⟨rfl, rfl⟩ -
         refine qg rfl (TE_gq rfl rfl rfl rfl (RD.neq rfl rfl) rfl (qF rfl (qm rfl (TE_ndec (fun hf69 => ?_) (fun hf69 => ?_)))))
         ·exact qs rfl (qs rfl (qs rfl (qs rfl (qT rfl (n0 (pn_give () trivial ⟨rfl, rfl, rfl, rfl, rfl, congrArg (fun b => some (Value.bool b)) (by first | (simp [hf66, hf69]; done) | (simp only [decide_eq_true hf66, decide_eq_false hf69]; rfl) | (simp only [decide_eq_true hf66, decide_eq_false hf69]; simp; done)), trivial⟩ sb))))))
         ·refine qg rfl (cG rfl call23 (fun w hw => c_stLen s5 mb6 ((put8 m ((gt (textsB l) i).b)).1) w hst47 hw.s) ?_)
          rintro v70 H71 ⟨rfl, rfl⟩ -
          exact qg rfl (TE_gq rfl rfl rfl rfl (RD.neq rfl rfl) rfl (qF rfl (n0 (pn_give () trivial ⟨rfl, rfl, rfl, rfl, rfl, congrArg (fun b => some (Value.bool b)) (by first | (simp [hf66, hf69]; done) | (simp only [decide_eq_true hf66, decide_eq_true hf69]; rfl) | (simp only [decide_eq_true hf66, decide_eq_true hf69]; simp; done)), trivial⟩ sb))))
       rintro _ -
       refine pn_cond rfl (fun hc72 => ?_) (fun hc72 => ?_)
       ·exfalso
        have ⟨q1, q2, q3⟩ := room_quota (m := m) hc52 (by first | exact hc57 | simpa using hc57) hc65; simp only [Bool.or_eq_true, Bool.not_eq_true', decide_eq_false_iff_not, ndE] at hc72; omega
       ·simp only [Bool.not_eq_false', Bool.or_eq_false_iff, decide_eq_true_eq] at hc72
        exact sk (pl (qq rfl (RD.addI rfl rfl (by omega) (by omega)) (qm rfl (n0 (agS ((i + 1), (put8 m ((gt (textsB l) i).b)).1) ⟨(by omega), hst47, (by rw [puts8_next (by omega), ← hm]), (show (put8 m (gt (textsB l) i).b).1.l.length ≤ i + 1 from Nat.le_trans put8_len (by omega))⟩ (by dsimp only; omega) ⟨rfl, rfl, rfl, rfl, rfl, trivial⟩)))))
      ·refine sq (pn_plain [7] rfl (qm rfl (qq rfl (RD.neq rfl rfl) (qm rfl (TE_join (σ := Unit) (fun _ => [(5, .bool true), (6, .pointer (some ⟨s5, 0, none⟩)), (40, bldVx (textsB l) st27), (41, .int .i64 ((textsB l).length : Int)), (42, .int .i64 (i : Int)), (81, .bool ((!decide (((put8 m ((gt (textsB l) i).b)).2.2) = 0)) || ((!decide ((((put8 m ((gt (textsB l) i).b)).1).q - ((put8 m ((gt (textsB l) i).b)).1).sz) = ((m.q - m.sz) - (((gt (textsB l) i).b).length : Int)))) || (!decide ((((put8 m ((gt (textsB l) i).b)).1).l.length : Int) = ((m.l.length : Int) + 1))))))]) (fun _ => ((s5, .cells #[.int .i64 (((put8 m ((gt (textsB l) i).b)).1).q), .int .i64 (((put8 m ((gt (textsB l) i).b)).1).sz), .map (some mb6)] 87 (0, 0)) :: (mb6, mapO keyV en8V (((put8 m ((gt (textsB l) i).b)).1).l) (((put8 m ((gt (textsB l) i).b)).1).c)) :: (0, .cells (wfV 8 (s8f shaB)).cells 130 (0, 0)) :: (1, .cells (wfV 64 (gtf shaK)).cells 257 (0, 0)) :: ((bldMx 32 (bsC) (textsB l) st27) ++ HX))) (fun _ => True) ?_ ?_)))))
       ·refine TE_ndec (fun hf73 => ?_) (fun hf73 => ?_)
        ·refine qs rfl (qs rfl (qs rfl (qs rfl (qs rfl (qs rfl (qs rfl (qT rfl (qm rfl (qs rfl ?_)))))))))
         exact qs rfl (qs rfl (qs rfl (qs rfl (qT rfl (n0 (pn_give () trivial ⟨rfl, rfl, rfl, rfl, rfl, congrArg (fun b => some (Value.bool b)) (by first | (simp [hf73]; done) | (simp only [decide_eq_false hf73]; rfl) | (simp only [decide_eq_false hf73]; simp; done)), trivial⟩ sb))))))
        ·refine qg rfl (cG rfl call22 (fun w hw => c_stLeft s5 mb6 ((put8 m ((gt (textsB l) i).b)).1) w hst47 hw.s) ?_)
         rintro v74 H75 ⟨rfl, rfl⟩ -
         refine qg rfl (qg rfl (TE_gq rfl rfl rfl rfl (RD.lenR runUnderlying32 rfl ((textsB_ok hbkl) (gt (textsB l) i) (gt_mem (by omega)))) rfl (TE_gq rfl rfl rfl rfl (RD.subI rfl rfl (by omega) (by omega)) rfl (TE_gq rfl rfl rfl rfl (RD.neq rfl rfl) rfl (qF rfl (qm rfl (TE_ndec (fun hf76 => ?_) (fun hf76 => ?_))))))))
         ·exact qs rfl (qs rfl (qs rfl (qs rfl (qs rfl (qT rfl (n0 (pn_give () trivial ⟨rfl, rfl, rfl, rfl, rfl, congrArg (fun b => some (Value.bool b)) (by first | (simp [hf73, hf76]; done) | (simp only [decide_eq_true hf73, decide_eq_false hf76]; rfl) | (simp only [decide_eq_true hf73, decide_eq_false hf76]; simp; done)), trivial⟩ sb)))))))
         ·refine qg rfl (cG rfl call23 (fun w hw => c_stLen s5 mb6 ((put8 m ((gt (textsB l) i).b)).1) w hst47 hw.s) ?_)
          rintro v77 H78 ⟨rfl, rfl⟩ -
          exact qg rfl (TE_gq rfl rfl rfl rfl (RD.addI rfl rfl (by omega) (by omega)) rfl (TE_gq rfl rfl rfl rfl (RD.neq rfl rfl) rfl (qF rfl (n0 (pn_give () trivial ⟨rfl, rfl, rfl, rfl, rfl, congrArg (fun b => some (Value.bool b)) (by first | (simp [hf73, hf76]; done) | (simp only [decide_eq_true hf73, decide_eq_true hf76]; rfl) | (simp only [decide_eq_true hf73, decide_eq_true hf76]; simp; done)), trivial⟩ sb)))))
       rintro _ -
       refine pn_cond rfl (fun hc79 => ?_) (fun hc79 => ?_)
       ·exfalso
        have ⟨q1, q2, q3⟩ := room_new (m := m) hc52 (by first | exact hc57 | simpa using hc57) hc65; simp only [Bool.or_eq_true, Bool.not_eq_true', decide_eq_false_iff_not, ndE] at hc79; omega
       ·simp only [Bool.not_eq_false', Bool.or_eq_false_iff, decide_eq_true_eq] at hc79
        exact sk (pl (qq rfl (RD.addI rfl rfl (by omega) (by omega)) (qm rfl (n0 (agS ((i + 1), (put8 m ((gt (textsB l) i).b)).1) ⟨(by omega), hst47, (by rw [puts8_next (by omega), ← hm]), (show (put8 m (gt (textsB l) i).b).1.l.length ≤ i + 1 from Nat.le_trans put8_len (by omega))⟩ (by dsimp only; omega) ⟨rfl, rfl, rfl, rfl, rfl, trivial⟩)))))
   ·exact xt (sq (plG [] [(0, .cells (wfV 8 (s8f shaB)).cells 130 (0, 0)), (1, .cells (wfV 64 (gtf shaK)).cells 257 (0, 0))] (qm rfl (qa rfl (n0 (rt (pn_doneS [] rfl rfl ⟨rfl, rfl⟩ (fun _ => Nat.zero_le _) (fun _ he => nomatch he))))))))
end Go.Proofs.YtmjmaloapafnlaaGreatDoor

namespace Go.Proofs.YtmjmaloapafnlaaGreatDoor
open Go Go.Mv Go.ChangeShapes
set_option maxRecDepth 100000
theorem cellsO_bs : Tryz.prog.cellsOf 32 = 1 := by kernel_rfl
theorem cellsO_op : Tryz.prog.cellsOf 67 = 2 := by kernel_rfl
section
variable {H : Type} {enc : TypeId × Value → H} {W : World}
def rawC (r : Int × Value) : List Value := [.int .i64 r.1, r.2]
def rawOk {H : Type} (enc : TypeId × Value → H) (W : World) (r : Int × Value) : Prop := ∃ n y, DataW.trod enc Tryz.prog W 0 (fun _ => true) true n 30 [r.2] = some y
theorem open_rawOp {n : Nat} {cs : List Value} {x : DataW H × List MemPlace} (h : DataW.trod enc Tryz.prog W 0 (fun _ => true) true n 67 cs = some x) : ∃ r, cs = rawC r ∧ rawOk enc W r := by
  obtain ⟨hl, hf⟩ := trod_field Tryz.underlying67 h
  rw [cellsO_op] at hl
  obtain ⟨m0, y0, h0⟩ := hf 0 _ rfl
  obtain ⟨m1, y1, h1⟩ := hf 1 _ rfl
  have h0 : DataW.trod enc Tryz.prog W 0 (fun _ => true) true m0 3 ((cs.drop 0).take (Tryz.prog.cellsOf 3)) = some y0 := h0
  have h1 : DataW.trod enc Tryz.prog W 0 (fun _ => true) true m1 30 ((cs.drop 1).take (Tryz.prog.cellsOf 30)) = some y1 := h1
  obtain ⟨k, hk, _, _⟩ := DataW.trod_int Tryz.underlying3 h0
  obtain ⟨v, hv⟩ := trod_cell Tryz.underlying30 h1
  refine ⟨(k, v), ?_, m1, y1, by rw [← hv]; exact h1⟩
  have e0 := at0 hk
  have e1 := at0 hv
  match cs, hl with
  | [a, b], _ =>
    simp only [List.getElem?_cons_zero, List.getElem?_cons_succ, Option.some.injEq] at e0 e1
    rw [e0, e1]; rfl
theorem open_eachOp : ∀ (rs : List (Int × Value)), (∀ r ∈ rs, rawOk enc W r) → ∀ HZ, Hp HZ W → ∃ HA, ∃ l : List OpM, Hp (HA ++ HZ) W ∧ l.map (fun o => (o.k, o.v)) = rs ∧ OpsOk (HA ++ HZ) l ∧ ∀ o ∈ l, o.l.length ≤ 9223372036854775807
  | [], _, HZ, hH => ⟨[], [], hH, rfl, (fun x hx => nomatch hx), (fun x hx => nomatch hx)⟩
  | r :: rs, hr, HZ, hH => by
    obtain ⟨HA, l, hA, hl, hok, hle⟩ := open_eachOp rs (fun x hx => hr x (List.mem_cons_of_mem _ hx)) HZ hH
    obtain ⟨n, y, hn⟩ := hr r List.mem_cons_self
    obtain ⟨HB, bs, hB, hb, hbs, hbl⟩ := open_bss Tryz.underlying30 Tryz.underlying32 cellsO_bs cellsO_u8 (fun n cs x h => open_byteT h) hn (HA ++ HZ) hA
    obtain ⟨a, c, hv⟩ := hb.shape
    have e : (OpM.v ⟨r.1, a, c, bs⟩) = r.2 := hv.symm
    refine ⟨HB ++ HA, ⟨r.1, a, c, bs⟩ :: l, by rw [List.append_assoc]; exact hB, by rw [List.map_cons, hl, e], fun x hx => ?_, fun x hx => ?_⟩
    · rw [List.append_assoc]
      rcases List.mem_cons.1 hx with rfl | hx
      · exact ⟨by rw [e]; exact hb, hbs⟩
      · exact ⟨(hok x hx).1.mono Hp_app, (hok x hx).2.mono Hp_app⟩
    · rcases List.mem_cons.1 hx with rfl | hx
      · exact hbl
      · exact hle x hx
/-- Calls that come in. -/
theorem open_ops {r : Reach} {b0 : Nat} {v : Value} {d : DataW H} {p : List MemPlace} (hval : Value.okWide Tryz.prog W r b0 22 v) (h : DataW.Trod enc Tryz.prog W 0 (fun _ => true) true 22 v d p) (HZ : Mem) (hH : Hp HZ W) :
    ∃ HA l, Hp (HA ++ HZ) W ∧ Rdx 2 opC (HA ++ HZ) v l ∧ OpsOk (HA ++ HZ) l ∧ (l.length ≤ 9223372036854775807 ∧ ∀ o ∈ l, o.l.length ≤ 9223372036854775807) := by
  obtain ⟨a0, l0, c0, rfl⟩ := WideShapes.okWide_slice Tryz.underlying22 hval
  obtain ⟨n, hn⟩ := h
  obtain ⟨HA, rs, hA, hrs, hok, hlen⟩ := open_slT (ec := rawC) (ok := rawOk enc W) Tryz.underlying22 cellsO_op (by decide) (fun _ => rfl) (fun n cs x h => open_rawOp h) (show DataW.trod enc Tryz.prog W 0 (fun _ => true) true n 22 [.slice a0 l0 c0] = some (d, p) from hn) HZ hH
  obtain ⟨HB, l, hB, hl, hops, hle⟩ := open_eachOp rs hok (HA ++ HZ) hA
  subst hl
  refine ⟨HB ++ HA, l, by rw [List.append_assoc]; exact hB, ?_, by rw [List.append_assoc]; exact hops, by simpa using hlen, hle⟩
  rw [List.append_assoc]
  have h9 := hrs.mono (H' := HB ++ (HA ++ HZ)) Hp_app
  rcases h9 with ⟨hn, he⟩ | ⟨b, off, cap, hv, hc, hcell⟩
  · exact .inl ⟨hn, by simpa using he⟩
  · refine .inr ⟨b, off, cap, by rw [hv]; simp, by simpa using hc, fun w hw i x hi j u hu => ?_⟩
    refine hcell w hw i (x.k, x.v) (by rw [List.getElem?_map, hi]; rfl) j u ?_
    simpa [opC, rawC, OpM.v] using hu
end
end Go.Proofs.YtmjmaloapafnlaaGreatDoor

namespace Go.Proofs.YtmjmaloapafnlaaGreatDoor
open Go Go.Mv
set_option maxRecDepth 100000
def beginZ : List Int := S8.l shaB |>.map fun a => (a.toNat : Int)
def factorsZ : List Int := shaK.map fun a => (a.toNat : Int)
theorem begin_is : (Rows.laid_marshes_hash_begin : DataW Unit) = Go.Lib.tabData .u32 beginZ := by kernel_rfl
theorem factors_is : (Rows.laid_marshes_hash_factors : DataW Unit) = Go.Lib.tabData .u32 factorsZ := by kernel_rfl
theorem begin_cells : (beginZ.map fun z => Value.int .u32 z) = (wfV 8 (s8f shaB)).cells.toList := by kernel_rfl
theorem factors_cells : (factorsZ.map fun z => Value.int .u32 z) = (wfV 64 (gtf shaK)).cells.toList := by kernel_rfl
/-- The listed tables, as they lie. -/
theorem laid_hash {W : World} (hsh : W.ShapedOpen Tryz.prog) (hL : laidMetH Tryz.prog [("marshes/hash.begin", Rows.laid_marshes_hash_begin), ("marshes/hash.factors", Rows.laid_marshes_hash_factors)] W) :
    Hp [(0, .cells (wfV 8 (s8f shaB)).cells 130 (0, 0)), (1, .cells (wfV 64 (gtf shaK)).cells 257 (0, 0))] W := by
  have hL : laidMet Tryz.prog [("marshes/hash.begin", Rows.laid_marshes_hash_begin), ("marshes/hash.factors", Rows.laid_marshes_hash_factors)] W := hL
  have hL2 : laidMet Tryz.prog [("marshes/hash.factors", Rows.laid_marshes_hash_factors)] W := laidMet.filter (fun x => x.1 == "marshes/hash.factors") hL
  rw [begin_is] at hL
  rw [factors_is] at hL2
  have v1 : W.var? Tryz.prog "marshes/hash.begin" = some (beginZ.map fun z => Value.int .u32 z).toArray := Go.Lib.tabIs_of_head (g := 0) (t := 130) (e := 129) (n := 8) (by kernel_rfl) (by kernel_rfl) Tryz.underlying130 Tryz.underlying129 (by kernel_rfl) (by kernel_rfl) hL
  have v2 : W.var? Tryz.prog "marshes/hash.factors" = some (factorsZ.map fun z => Value.int .u32 z).toArray := Go.Lib.tabIs_of_head (g := 1) (t := 257) (e := 129) (n := 64) (by kernel_rfl) (by kernel_rfl) Tryz.underlying257 Tryz.underlying129 (by kernel_rfl) (by kernel_rfl) hL2
  obtain ⟨c1, h1, _⟩ := hsh.1 0 (List.replicate 8 (Value.int .u32 0)).toArray 130 (of_decide_eq_true (by kernel_rfl)) (by kernel_rfl)
  obtain ⟨c2, h2, _⟩ := hsh.1 1 (List.replicate 64 (Value.int .u32 0)).toArray 257 (of_decide_eq_true (by kernel_rfl)) (by kernel_rfl)
  have g1 : Tryz.prog.globalNamed "marshes/hash.begin" = some 0 := by kernel_rfl
  have g2 : Tryz.prog.globalNamed "marshes/hash.factors" = some 1 := by kernel_rfl
  have e1 : c1 = (wfV 8 (s8f shaB)).cells := by
    unfold World.var? at v1
    rw [g1] at v1
    simp only [Option.bind_some, h1] at v1
    rw [Option.some.inj v1, begin_cells]
  have e2 : c2 = (wfV 64 (gtf shaK)).cells := by
    unfold World.var? at v2
    rw [g2] at v2
    simp only [Option.bind_some, h2] at v2
    rw [Option.some.inj v2, factors_cells]
  subst e1; subst e2
  refine ⟨fun e he => ?_, by simp⟩
  simp only [List.mem_cons, List.not_mem_nil, or_false] at he
  rcases he with rfl | rfl
  · exact h1
  · exact h2
end Go.Proofs.YtmjmaloapafnlaaGreatDoor
