import Derived.Test.YtmjmaloapafnlaaGreatDoorGba
import Derived.Test.YtmjmaloapafnlaaGreatDoorRows
import Derived.Lib.LaidTab
import Derived.LaidSub
namespace Go.Proofs.YtmjmaloapafnlaaGreatDoor
open Go.Proofs.Tryz
open Go Go.Mv
set_option maxRecDepth 8000
theorem mem_tx {l : List OpM} {i j : Nat} (hi : i < l.length) (hj : j < (gt l i).l.length) : gt (gt l i).l j ∈ textsB l := List.mem_flatMap.2 ⟨_, gt_mem hi, gt_mem hj⟩
theorem keyV_put {f : Nat → Int} {b : List UInt8} (h : f = shaF b) : keyV (k8 b) = idV f := by subst h; exact keyV_kOf (shaF_ok _)
theorem tx_le {l : List OpM} {i : Nat} (hi : i < l.length) : (textsB (l.take i)).length + (gt l i).l.length ≤ (textsB l).length := by
  rw [← List.length_append, textsB_next hi]
  have h : textsB l = textsB (l.take (i + 1)) ++ textsB (l.drop (i + 1)) := by
    unfold textsB; rw [← List.flatMap_append, List.take_append_drop]
  rw [h, List.length_append]; omega

set_option maxHeartbeats 8000000 in
theorem c_StoreKeeps (qt : Int) (lv : Value) (l : List OpM) (HX : Mem) (w : World) (hbl : Rdx 2 (opC) ((0, .cells (wfV 8 (s8f shaB)).cells 130 (0, 0)) :: (1, .cells (wfV 64 (gtf shaK)).cells 257 (0, 0)) :: HX) lv l) (hbkl : OpsOk ((0, .cells (wfV 8 (s8f shaB)).cells 130 (0, 0)) :: (1, .cells (wfV 64 (gtf shaK)).cells 257 (0, 0)) :: HX) l) (hll : l.length ≤ 9223372036854775807 ∧ ∀ o ∈ l, o.l.length ≤ 9223372036854775807) (hH : Hp ((0, .cells (wfV 8 (s8f shaB)).cells 130 (0, 0)) :: (1, .cells (wfV 64 (gtf shaK)).cells 257 (0, 0)) :: HX) w) : Calls Tryz.prog 5 #[.int .i64 qt, lv] w (Ret w [] fun v H1 => v = .bool true ∧ H1 = []) := by
 refine fn_enter (args := [_, _]) func5 rfl ntmps5 rfl hH (sq (pl (qa rfl (n0 (sq (pl (cG rfl call15 (fun w hw => c_alive8  w  hw.s) ?_)))))))
 rintro v1 H2 ⟨rfl, rfl⟩ -
 refine qa rfl (n0 (sq (pl (qm rfl (cG rfl call16 (fun w hw => c_stNew qt w  hw.s) ?_)))))
 rintro v9 H10 (⟨hq3, rfl, rfl⟩ | ⟨hq4, s5, mb6, rfl, rfl⟩) hX11
 ·refine qm rfl (qe rfl (qe rfl (qa rfl (qa rfl (n0 (sq (sq (pl (qm rfl ?_)))))))))
  refine cG rfl call17 (fun w hw => c_great8 lv l ((0, .cells (wfV 8 (s8f shaB)).cells 130 (0, 0)) :: (1, .cells (wfV 64 (gtf shaK)).cells 257 (0, 0)) :: HX) w hbl.s (fun x hx => ⟨(hbkl x hx).1.mono sb, (hbkl x hx).2.mono sb⟩) hll hw.s) ?_
  rintro v12 H13 ⟨rfl, rfl⟩ -
  refine qm rfl (TE_join (σ := Unit) (fun _ => [(0, .int .i64 qt), (1, lv), (5, .bool true), (6, .pointer none), (39, .bool true)]) (fun _ => ((0, .cells (wfV 8 (s8f shaB)).cells 130 (0, 0)) :: (1, .cells (wfV 64 (gtf shaK)).cells 257 (0, 0)) :: HX)) (fun _ => True) ?_ ?_)
  ·refine TE_bool (fun hf14 => ?_) (fun hf14 => ?_)
   ·refine qs rfl (qs rfl (qT rfl (qm rfl (qs rfl (qs rfl (qT rfl (qm rfl (qs rfl (qs rfl ?_)))))))))
    exact qs rfl (qs rfl (qT rfl (n0 (pn_give () trivial ⟨rfl, rfl, rfl, rfl, rfl, trivial⟩ sb))))
   ·refine qg rfl (TE_gq rfl rfl rfl rfl (RD.as (v := .bool true) (RD.neq rfl rfl) rfl) rfl (qF rfl (qm rfl (qs rfl (qs rfl (qT rfl (qm rfl (qs rfl (qs rfl ?_)))))))))
    exact qs rfl (qs rfl (qT rfl (n0 (pn_give () trivial ⟨rfl, rfl, rfl, rfl, rfl, trivial⟩ sb))))
  rintro _ -
  exact pn_condT rfl (sq (pl (qm rfl (qa rfl (n0 (rt (pn_doneS [] rfl rfl ⟨rfl, rfl⟩ (fun _ => Nat.zero_le _) (fun _ he => nomatch he))))))))
 ·have hst8 : StOk (⟨qt, 0, [], 0⟩ : St8) := st0_ok hq4; refine TE_sp ((s5, .cells #[.int .i64 ((⟨qt, 0, [], 0⟩ : St8).q), .int .i64 ((⟨qt, 0, [], 0⟩ : St8).sz), .map (some mb6)] 87 (0, 0)) :: (mb6, mapO keyV en8V ((⟨qt, 0, [], 0⟩ : St8).l) ((⟨qt, 0, [], 0⟩ : St8).c)) :: (0, .cells (wfV 8 (s8f shaB)).cells 130 (0, 0)) :: (1, .cells (wfV 64 (gtf shaK)).cells 257 (0, 0)) :: HX) (fun a => by simp -failIfUnchanged <;> omega) ?_
  refine qm rfl (qe rfl (qe rfl (qa rfl (qa rfl (n0 (sq (sq (pl (qm rfl ?_)))))))))
  refine cG rfl call17 (fun w hw => c_great8 lv l ((0, .cells (wfV 8 (s8f shaB)).cells 130 (0, 0)) :: (1, .cells (wfV 64 (gtf shaK)).cells 257 (0, 0)) :: HX) w hbl.s (fun x hx => ⟨(hbkl x hx).1.mono sb, (hbkl x hx).2.mono sb⟩) hll hw.s) ?_
  rintro v15 H16 ⟨rfl, rfl⟩ -
  refine qm rfl (TE_join (σ := Unit) (fun _ => [(0, .int .i64 qt), (1, lv), (5, .bool true), (6, .pointer (some ⟨s5, 0, none⟩)), (39, .bool ((greatOps l) || (decide (0 < (clashI (textsB l))))))]) (fun _ => ((s5, .cells #[.int .i64 ((⟨qt, 0, [], 0⟩ : St8).q), .int .i64 ((⟨qt, 0, [], 0⟩ : St8).sz), .map (some mb6)] 87 (0, 0)) :: (mb6, mapO keyV en8V ((⟨qt, 0, [], 0⟩ : St8).l) ((⟨qt, 0, [], 0⟩ : St8).c)) :: (0, .cells (wfV 8 (s8f shaB)).cells 130 (0, 0)) :: (1, .cells (wfV 64 (gtf shaK)).cells 257 (0, 0)) :: HX)) (fun _ => True) ?_ ?_)
  ·refine TE_bool (fun hf17 => ?_) (fun hf17 => ?_)
   ·refine qs rfl (qs rfl (qT rfl (qm rfl (qs rfl (qs rfl (qT rfl (qm rfl (qs rfl (qs rfl ?_)))))))))
    exact qs rfl (qs rfl (qT rfl (n0 (pn_give () trivial ⟨rfl, rfl, rfl, rfl, congrArg (fun b => some (Value.bool b)) (by first | (simp [hf17]; done) | (simp only [hf17]; rfl) | (simp only [hf17]; simp; done)), trivial⟩ sb))))
   ·refine qg rfl (TE_gq rfl rfl rfl rfl (RD.as (v := .bool false) (RD.neq rfl rfl) rfl) rfl (qF rfl (qm rfl (qg rfl (TE_gq rfl rfl rfl rfl (RD.as (v := .bool false) (RD.not rfl) rfl) rfl (qF rfl (qm rfl (qg rfl (cG rfl call19 (fun w hw => c_texts8 lv l ((0, .cells (wfV 8 (s8f shaB)).cells 130 (0, 0)) :: (1, .cells (wfV 64 (gtf shaK)).cells 257 (0, 0)) :: HX) w hbl.s (fun x hx => ⟨(hbkl x hx).1.mono sb, (hbkl x hx).2.mono sb⟩) hll hf17 hw.s) ?_)))))))))
    rintro v22 H23 ⟨st18, hbo19, rfl, rfl⟩ hX20
    have hRD21 := hbo19.rdx (u := 32) bsC_len
    refine tsp ((s5, .cells #[.int .i64 ((⟨qt, 0, [], 0⟩ : St8).q), .int .i64 ((⟨qt, 0, [], 0⟩ : St8).sz), .map (some mb6)] 87 (0, 0)) :: (mb6, mapO keyV en8V ((⟨qt, 0, [], 0⟩ : St8).l) ((⟨qt, 0, [], 0⟩ : St8).c)) :: (0, .cells (wfV 8 (s8f shaB)).cells 130 (0, 0)) :: (1, .cells (wfV 64 (gtf shaK)).cells 257 (0, 0)) :: ((bldMx 32 (bsC) (textsB l) st18) ++ HX)) (cG rfl call18 (fun w hw => c_clash8 (bldVx (textsB l) st18) (textsB l) ((0, .cells (wfV 8 (s8f shaB)).cells 130 (0, 0)) :: (1, .cells (wfV 64 (gtf shaK)).cells 257 (0, 0)) :: ((bldMx 32 (bsC) (textsB l) st18) ++ HX)) w hRD21.s ((textsB_ok hbkl).mono sb) (Nat.le_trans (textsB_le hf17) (by decide)) (fun x hx => Nat.le_trans (textsB_b hf17 x hx) (by decide)) hw.s) ?_)
    rintro v24 H25 ⟨rfl, rfl⟩ -
    exact TE_gq rfl rfl rfl rfl (RD.gtr rfl rfl) rfl (qF rfl (n0 (pn_give () trivial ⟨rfl, rfl, rfl, rfl, congrArg (fun b => some (Value.bool b)) (by first | (simp [hf17]; done) | (simp only [hf17]; rfl) | (simp only [hf17]; simp; done)), trivial⟩ sb)))
  rintro _ -
  refine pn_cond rfl (fun hc26 => ?_) (fun hc26 => ?_)
  ·simp only [Bool.or_eq_true, decide_eq_true_eq] at hc26
   exact sq (pl (qm rfl (qa rfl (n0 (rt (pn_doneS [] rfl rfl ⟨rfl, rfl⟩ (fun _ => Nat.zero_le _) (fun _ he => nomatch he)))))))
  ·simp only [Bool.or_eq_false_iff, decide_eq_false_iff_not] at hc26
   have hgr := hc26.1; have hcl := clashI_0 hc26.2
   have hll1 := hll.1
   refine sk (sq (pl (TE_makeMap keyV BSl.v rfl trivial rfl fun b41 hb41 => (qa rfl (n0 (sq (sq (pn_plain [1] rfl (qm rfl ?_)))))))))
   refine qq rfl (RD.lenX runUnderlying22 rfl hbl) (qm rfl (n0 (pn_block ?_)))
   have htli := textsB_le hgr
   refine lpS (σ := Nat × St8 × (List (ME Key BSl)) × Nat) (fun q => [(0, .int .i64 qt), (1, lv), (5, .bool true), (6, .pointer (some ⟨s5, 0, none⟩)), (8, .map (some b41)), (43, .int .i64 (l.length : Int)), (44, .int .i64 (q.1 : Int))]) (fun q => ((s5, .cells #[.int .i64 q.2.1.q, .int .i64 q.2.1.sz, .map (some mb6)] 87 (0, 0)) :: (mb6, mapO keyV en8V q.2.1.l q.2.1.c) :: (b41, mapO keyV BSl.v q.2.2.1 q.2.2.2) :: (0, .cells (wfV 8 (s8f shaB)).cells 130 (0, 0)) :: (1, .cells (wfV 64 (gtf shaK)).cells 257 (0, 0)) :: HX)) (fun q => (q.1 ≤ l.length) ∧ (KeepI (textsB l) qt (textsB (l.take q.1)).length q.2.1 q.2.2.1 q.2.2.2)) (fun q => l.length - q.1) (0, (⟨qt, 0, [], 0⟩ : St8), ([] : List (ME Key BSl)), 0) ⟨(by omega), (keep_start hst8)⟩ ⟨rfl, rfl, rfl, rfl, rfl, rfl, rfl, trivial⟩ ?_
   rintro ⟨i, m, hl, hc⟩ ⟨hi, hI⟩
   dsimp only at hi hI ⊢
   have hsni := hI.n; have hs0i := hI.st.s0; have hsqi := hI.st.sq; have hqqi := hI.q
   refine sq (pl (qq rfl (RD.lss rfl rfl) (n0 (sq (pn_condD rfl (fun hc27 => ?_) (fun hc27 => ?_))))))
   ·refine sk (sq (pn_block (sq (pl (qm rfl (qa rfl (n0 (sq (pn_plain [5] rfl ?_)))))))))
    refine qm rfl (qm rfl (qq rfl (RD.idxR (i := i) (o := (i * 2 + 0)) runUnderlying22 sizeOf67 rfl hbl rfl rfl (by omega) (by rfl)) (qq rfl (RD.fldR (i := i) (o' := (i * 2 + 1)) runUnderlying67 rfl (by rfl) sizeOf30 rfl hbl (by omega)) (ql rfl (RD.ldR (i := i) (j := 1) (u := (OpM.v (gt l i))) isAgg30 rfl hbl (gt_some (by omega)) (by rfl) rfl sb) (qq rfl (RD.lenX runUnderlying30 rfl (hbkl (gt l i) (gt_mem (by omega))).1) (qm rfl (n0 (pn_block ?_))))))))
    have htli1 := textsB_le hgr
    have htx := tx_le (l := l) (i := i) (by omega)
    refine lpS (σ := Nat × St8 × (List (ME Key BSl)) × Nat) (fun q => [(0, .int .i64 qt), (1, lv), (5, .bool true), (6, .pointer (some ⟨s5, 0, none⟩)), (8, .map (some b41)), (43, .int .i64 (l.length : Int)), (44, .int .i64 (i : Int)), (51, (OpM.v (gt l i))), (52, .int .i64 (((gt l i).l).length : Int)), (53, .int .i64 (q.1 : Int))]) (fun q => ((s5, .cells #[.int .i64 q.2.1.q, .int .i64 q.2.1.sz, .map (some mb6)] 87 (0, 0)) :: (mb6, mapO keyV en8V q.2.1.l q.2.1.c) :: (b41, mapO keyV BSl.v q.2.2.1 q.2.2.2) :: (0, .cells (wfV 8 (s8f shaB)).cells 130 (0, 0)) :: (1, .cells (wfV 64 (gtf shaK)).cells 257 (0, 0)) :: HX)) (fun q => (q.1 ≤ (gt l i).l.length) ∧ (KeepI (textsB l) qt ((textsB (l.take i)).length + q.1) q.2.1 q.2.2.1 q.2.2.2)) (fun q => (gt l i).l.length - q.1) (0, m, hl, hc) ⟨(by omega), hI⟩ ⟨rfl, rfl, rfl, rfl, rfl, rfl, rfl, rfl, rfl, rfl, trivial⟩ ?_
    rintro ⟨i1, m1, hl1, hc1⟩ ⟨hi1, hI1⟩
    dsimp only at hi1 hI1 ⊢
    have hsni1 := hI1.n; have hs0i1 := hI1.st.s0; have hsqi1 := hI1.st.sq; have hqqi1 := hI1.q
    refine sq (pl (qq rfl (RD.lss rfl rfl) (n0 (sq (pn_condD rfl (fun hc28 => ?_) (fun hc28 => ?_))))))
    ·refine sk (sq (pn_block (sq (pl (qq rfl (RD.idxR (i := i1) (o := (i1 * 1 + 0)) runUnderlying30 sizeOf32 rfl (hbkl (gt l i) (gt_mem (by omega))).1 rfl rfl (by omega) (by rfl)) (ql rfl (RD.ldR (i := i1) (j := 0) (u := (BSl.v (gt ((gt l i).l) i1))) isAgg32 rfl (hbkl (gt l i) (gt_mem (by omega))).1 (gt_some (by omega)) (by rfl) rfl sb) (qa rfl (n0 (sq ?_)))))))))
     refine pl (qm rfl (qm rfl (cM [(s5, .cells #[.int .i64 m1.q, .int .i64 m1.sz, .map (some mb6)] 87 (0, 0)), (mb6, mapO keyV en8V m1.l m1.c)] ((b41, mapO keyV BSl.v hl1 hc1) :: (0, .cells (wfV 8 (s8f shaB)).cells 130 (0, 0)) :: (1, .cells (wfV 64 (gtf shaK)).cells 257 (0, 0)) :: HX) rfl call24 (ownC (.inl (hX11 _ List.mem_cons_self)) (ownC (.inl (hX11 _ (List.mem_cons_of_mem _ List.mem_cons_self))) own0)) (fun w hw => c_stPut s5 mb6 m1 (BSl.v (gt ((gt l i).l) i1)) ((gt ((gt l i).l) i1).b) HX w hI1.st (((hbkl (gt l i) (gt_mem (by omega))).2 (gt ((gt l i).l) i1) (gt_mem (by omega))).mono sb) (Nat.le_trans (textsB_b hgr _ (mem_tx (i := i) (j := i1) (by omega) (by omega))) (by decide)) hw.s) ?_)))
     rintro v31 H32 ⟨rfl, rfl⟩ hX29
     have hst30 := put8_ok (b := ((gt ((gt l i).l) i1).b)) hI1.st (by have h9 := textsB_le hgr; omega) (Nat.le_trans (textsB_b hgr _ (mem_tx (i := i) (j := i1) (by omega) (by omega))) (by decide))
     refine tsp ((s5, .cells #[.int .i64 (((put8 m1 ((gt ((gt l i).l) i1).b)).1).q), .int .i64 (((put8 m1 ((gt ((gt l i).l) i1).b)).1).sz), .map (some mb6)] 87 (0, 0)) :: (mb6, mapO keyV en8V (((put8 m1 ((gt ((gt l i).l) i1).b)).1).l) (((put8 m1 ((gt ((gt l i).l) i1).b)).1).c)) :: (b41, mapO keyV BSl.v hl1 hc1) :: (0, .cells (wfV 8 (s8f shaB)).cells 130 (0, 0)) :: (1, .cells (wfV 64 (gtf shaK)).cells 257 (0, 0)) :: HX) (qm rfl (qe rfl (qe rfl (TE_allocC (idV (fun _ => 0)).cells rfl zeroValue36 rfl trivial rfl fun b12 hb12 => (TE_putCW 0 _ _ ((b12, .cells (idV ((put8 m1 ((gt ((gt l i).l) i1).b)).2.1)).cells 36 (0, 0)) :: (s5, .cells #[.int .i64 (((put8 m1 ((gt ((gt l i).l) i1).b)).1).q), .int .i64 (((put8 m1 ((gt ((gt l i).l) i1).b)).1).sz), .map (some mb6)] 87 (0, 0)) :: (mb6, mapO keyV en8V (((put8 m1 ((gt ((gt l i).l) i1).b)).1).l) (((put8 m1 ((gt ((gt l i).l) i1).b)).1).c)) :: (b41, mapO keyV BSl.v hl1 hc1) :: (0, .cells (wfV 8 (s8f shaB)).cells 130 (0, 0)) :: (1, .cells (wfV 64 (gtf shaK)).cells 257 (0, 0)) :: HX) rfl sizeOf36 trivial rfl rfl rfl rfl rfl rfl rfl rfl (.inl hb12) (qa rfl (n0 (sq (sq ?_)))))))))
     refine dG [14] [] ((b12, .cells (idV ((put8 m1 ((gt ((gt l i).l) i1).b)).2.1)).cells 36 (0, 0)) :: (s5, .cells #[.int .i64 (((put8 m1 ((gt ((gt l i).l) i1).b)).1).q), .int .i64 (((put8 m1 ((gt ((gt l i).l) i1).b)).1).sz), .map (some mb6)] 87 (0, 0)) :: (mb6, mapO keyV en8V (((put8 m1 ((gt ((gt l i).l) i1).b)).1).l) (((put8 m1 ((gt ((gt l i).l) i1).b)).1).c)) :: (b41, mapO keyV BSl.v hl1 hc1) :: (0, .cells (wfV 8 (s8f shaB)).cells 130 (0, 0)) :: (1, .cells (wfV 64 (gtf shaK)).cells 257 (0, 0)) :: HX) (qm rfl (qq rfl (RD.eql rfl rfl) (qm rfl (TE_join (σ := Unit) (fun _ => [(0, .int .i64 qt), (1, lv), (5, .bool true), (6, .pointer (some ⟨s5, 0, none⟩)), (8, .map (some b41)), (11, (BSl.v (gt ((gt l i).l) i1))), (12, .pointer (some ⟨b12, 0, none⟩)), (13, .int .i64 ((put8 m1 ((gt ((gt l i).l) i1).b)).2.2)), (43, .int .i64 (l.length : Int)), (44, .int .i64 (i : Int)), (51, (OpM.v (gt l i))), (52, .int .i64 (((gt l i).l).length : Int)), (53, .int .i64 (i1 : Int)), (83, .bool ((decide (((put8 m1 ((gt ((gt l i).l) i1).b)).2.2) = 80)) || ((!((decide (((put8 m1 ((gt ((gt l i).l) i1).b)).2.2) = 70)) == (decide ((kindM ((gt ((gt l i).l) i1).b)) = 0)))) || ((decide (((put8 m1 ((gt ((gt l i).l) i1).b)).2.2) = 0)) && (!(sameN 32 ((put8 m1 ((gt ((gt l i).l) i1).b)).2.1) (shaF ((gt ((gt l i).l) i1).b))))))))]) (fun _ => ((b12, .cells (idV ((put8 m1 ((gt ((gt l i).l) i1).b)).2.1)).cells 36 (0, 0)) :: (s5, .cells #[.int .i64 (((put8 m1 ((gt ((gt l i).l) i1).b)).1).q), .int .i64 (((put8 m1 ((gt ((gt l i).l) i1).b)).1).sz), .map (some mb6)] 87 (0, 0)) :: (mb6, mapO keyV en8V (((put8 m1 ((gt ((gt l i).l) i1).b)).1).l) (((put8 m1 ((gt ((gt l i).l) i1).b)).1).c)) :: (b41, mapO keyV BSl.v hl1 hc1) :: (0, .cells (wfV 8 (s8f shaB)).cells 130 (0, 0)) :: (1, .cells (wfV 64 (gtf shaK)).cells 257 (0, 0)) :: HX)) (fun _ => True) ?_ ?_))))
     ·refine TE_dec (fun hf33 => ?_) (fun hf33 => ?_)
      ·refine qs rfl (qs rfl (qs rfl (qs rfl (qs rfl (qs rfl (qT rfl (qm rfl (qs rfl (qs rfl ?_)))))))))
       exact qs rfl (TE_su rfl rfl rfl rfl (TE_su rfl rfl rfl rfl (TE_su rfl rfl rfl rfl (TE_su rfl rfl rfl rfl (TE_su rfl rfl rfl rfl (qs rfl (qT rfl (TE_nil (pn_give () trivial ⟨rfl, rfl, rfl, rfl, rfl, rfl, rfl, rfl, rfl, rfl, rfl, rfl, rfl, congrArg (fun b => some (Value.bool b)) (by first | (simp [hf33]; done) | (simp only [decide_eq_true hf33]; rfl) | (simp only [decide_eq_true hf33]; simp; done)), trivial⟩ sb)))))))))
      ·refine qg rfl (TE_gq rfl rfl rfl rfl (RD.eql rfl rfl) rfl (qg rfl (cG rfl call25 (fun w hw => c_obKind (BSl.v (gt ((gt l i).l) i1)) ((gt ((gt l i).l) i1).b) ((0, .cells (wfV 8 (s8f shaB)).cells 130 (0, 0)) :: (1, .cells (wfV 64 (gtf shaK)).cells 257 (0, 0)) :: HX) w (((hbkl (gt l i) (gt_mem (by omega))).2 (gt ((gt l i).l) i1) (gt_mem (by omega))).mono sb) (Nat.le_trans (textsB_b hgr _ (mem_tx (i := i) (j := i1) (by omega) (by omega))) (by decide)) hw.s) ?_)))
       rintro v34 H35 ⟨rfl, rfl⟩ -
       refine TE_gq rfl rfl rfl rfl (RD.eql rfl rfl) rfl (TE_gq rfl rfl rfl rfl (RD.neq_bool runUnderlying4 rfl rfl) rfl (qF rfl (qm rfl (TE_bool (fun hf36 => ?_) (fun hf36 => ?_)))))
       ·refine qs rfl (qs rfl (qs rfl (TE_su rfl rfl rfl rfl (TE_su rfl rfl rfl rfl (TE_su rfl rfl rfl rfl (TE_su rfl rfl rfl rfl (TE_su rfl rfl rfl rfl (qs rfl (qT rfl ?_)))))))))
        exact TE_nil (pn_give () trivial ⟨rfl, rfl, rfl, rfl, rfl, rfl, rfl, rfl, rfl, rfl, rfl, rfl, rfl, congrArg (fun b => some (Value.bool b)) (by first | (simp [hf33, hf36]; done) | (simp only [decide_eq_false hf33, hf36]; rfl) | (simp only [decide_eq_false hf33, hf36]; simp; done)), trivial⟩ sb)
       ·refine qg rfl (TE_gq rfl rfl rfl rfl (RD.eql rfl rfl) rfl (qg rfl (TE_dec (fun hf37 => ?_) (fun hf37 => ?_))))
        ·refine TE_gq rfl rfl rfl rfl (RD.loadA (i := 0) isAgg36 sizeOf36 rfl rfl (Nat.le_of_ble_eq_true rfl) (id_all _)) rfl (qg rfl (TE_buildSlice (cells := #[(BSl.v (gt ((gt l i).l) i1))]) rfl runUnderlying30 sizeOf32 zeroValue32 rfl rfl rfl (by obtain ⟨a0, c0, e0⟩ := (((hbkl (gt l i) (gt_mem (by omega))).2 (gt ((gt l i).l) i1) (gt_mem (by omega)))).shape; rw [e0]; kernel_rfl) ⟨_, rfl, rfl⟩ rfl fun b79 hb79 => (cG rfl call21 (fun w hw => c_hashOf b79 (BSl.v (gt ((gt l i).l) i1)) ((gt ((gt l i).l) i1).b) HX w (((hbkl (gt l i) (gt_mem (by omega))).2 (gt ((gt l i).l) i1) (gt_mem (by omega))).mono sb) (Nat.le_trans (textsB_b hgr _ (mem_tx (i := i) (j := i1) (by omega) (by omega))) (by decide)) hw.s) ?_)))
         rintro v38 H39 ⟨rfl, rfl⟩ -
         exact TE_gq rfl rfl rfl rfl (RD.neq_agg eqGuardType36 (eq_id ((put8 m1 ((gt ((gt l i).l) i1).b)).2.1) (shaF ((gt ((gt l i).l) i1).b))) rfl rfl) rfl (TE_gq rfl rfl rfl rfl (RD.pickT rfl rfl) rfl (qF rfl (TE_nil (pn_give () trivial ⟨rfl, rfl, rfl, rfl, rfl, rfl, rfl, rfl, rfl, rfl, rfl, rfl, rfl, congrArg (fun b => some (Value.bool b)) (by first | (simp [hf33, hf36, hf37]; done) | (simp only [decide_eq_false hf33, hf36, decide_eq_true hf37]; rfl) | (simp only [decide_eq_false hf33, hf36, decide_eq_true hf37]; simp; done)), trivial⟩ sb))))
        ·exact qs rfl (qs rfl (qs rfl (qs rfl (qs rfl (TE_gq rfl rfl rfl rfl (RD.pickF rfl rfl) rfl (qF rfl (TE_nil (pn_give () trivial ⟨rfl, rfl, rfl, rfl, rfl, rfl, rfl, rfl, rfl, rfl, rfl, rfl, rfl, congrArg (fun b => some (Value.bool b)) (by first | (simp [hf33, hf36, hf37]; done) | (simp only [decide_eq_false hf33, hf36, decide_eq_false hf37]; rfl) | (simp only [decide_eq_false hf33, hf36, decide_eq_false hf37]; simp; done)), trivial⟩ sb))))))))
     rintro _ -
     refine pn_cond rfl (fun hc40 => ?_) (fun hc40 => ?_)
     ·exfalso
      have ⟨q1, q2, q3⟩ := keep_err hI1 (mem_tx (i := i) (j := i1) (by omega) (by omega)) hcl; rw [q2] at hc40; rcases Decidable.em ((put8 m1 (gt (gt l i).l i1).b).2.2 = 0) with hz | hz; (rw [q3 hz] at hc40; simp [hz, sameN_self] at hc40); (simp [q1, hz] at hc40)
     ·simp only [Bool.and_eq_false_iff, Bool.not_eq_false', Bool.or_eq_false_iff, decide_eq_false_iff_not] at hc40
      refine sk (sq (pl (qm rfl (qq rfl (RD.eql rfl rfl) (n0 (pn_condD rfl (fun hc41 => ?_) (fun hc41 => ?_)))))))
      ·have hpid := (keep_err hI1 (mem_tx (i := i) (j := i1) (by omega) (by omega)) hcl).2.2 hc41
       refine pl (qm rfl (ql rfl (RD.loadA (i := 0) isAgg36 sizeOf36 rfl rfl (Nat.le_of_ble_eq_true rfl) (id_all _)) (qm rfl (TE_mapUpd (ek := keyV) (ev := BSl.v) (l := hl1) (a := (k8 ((gt ((gt l i).l) i1).b))) (v := (gt ((gt l i).l) i1)) 3 ((b12, .cells (idV ((put8 m1 ((gt ((gt l i).l) i1).b)).2.1)).cells 36 (0, 0)) :: (s5, .cells #[.int .i64 (((put8 m1 ((gt ((gt l i).l) i1).b)).1).q), .int .i64 (((put8 m1 ((gt ((gt l i).l) i1).b)).1).sz), .map (some mb6)] 87 (0, 0)) :: (mb6, mapO keyV en8V (((put8 m1 ((gt ((gt l i).l) i1).b)).1).l) (((put8 m1 ((gt ((gt l i).l) i1).b)).1).c)) :: (b41, mapO keyV BSl.v ((mput (k8 ((gt ((gt l i).l) i1).b)) (gt ((gt l i).l) i1) hl1 hc1).1) ((mput (k8 ((gt ((gt l i).l) i1).b)) (gt ((gt l i).l) i1) hl1 hc1).2)) :: (0, .cells (wfV 8 (s8f shaB)).cells 130 (0, 0)) :: (1, .cells (wfV 64 (gtf shaK)).cells 257 (0, 0)) :: HX) rfl trivial underlying65 keyId rfl (congrArg some (keyV_put hpid).symm) rfl rfl (.inl hb41) rfl (n0 (pl (qq rfl (RD.addI rfl rfl (by omega) (by omega)) (qm rfl (n0 ?_)))))))))
       exact agS ((i1 + 1), ((put8 m1 ((gt ((gt l i).l) i1).b)).1), (mput (k8 ((gt ((gt l i).l) i1).b)) (gt ((gt l i).l) i1) hl1 hc1).1, (mput (k8 ((gt ((gt l i).l) i1).b)) (gt ((gt l i).l) i1) hl1 hc1).2) ⟨(by omega), (keep_0 hI1 (mem_tx (i := i) (j := i1) (by omega) (by omega)) hcl (show (textsB (l.take i)).length + i1 < 1000000 by omega) (Nat.le_trans (textsB_b hgr _ (mem_tx (i := i) (j := i1) (by omega) (by omega))) (by decide)) hc41)⟩ (by dsimp only; omega) ⟨rfl, rfl, rfl, rfl, rfl, rfl, rfl, rfl, rfl, rfl, trivial⟩
      ·exact sk (pl (qq rfl (RD.addI rfl rfl (by omega) (by omega)) (qm rfl (n0 (agS ((i1 + 1), ((put8 m1 ((gt ((gt l i).l) i1).b)).1), hl1, hc1) ⟨(by omega), (keep_e hI1 (mem_tx (i := i) (j := i1) (by omega) (by omega)) hcl hc41)⟩ (by dsimp only; omega) ⟨rfl, rfl, rfl, rfl, rfl, rfl, rfl, rfl, rfl, rfl, trivial⟩)))))
    ·exact xt (pl (qq rfl (RD.addI rfl rfl (by omega) (by omega)) (qm rfl (n0 (agS ((i + 1), m1, hl1, hc1) ⟨(by omega), (by rw [← textsB_next (by omega), List.length_append, show (gt l i).l.length = i1 from by omega]; exact hI1)⟩ (by dsimp only; omega) ⟨rfl, rfl, rfl, rfl, rfl, rfl, rfl, trivial⟩)))))
   ·refine xt (sq (sq (pl (qm rfl (TE_rangeM (ek := keyV) (ev := BSl.v) (l := hl) 2 rfl underlying65 rfl rfl trivial rfl fun b92 hb92 => (n0 (pn_block (lpS (σ := (List (ME Key BSl))) (fun q => [(0, .int .i64 qt), (5, .bool true), (6, .pointer (some ⟨s5, 0, none⟩)), (8, .map (some b41)), (92, .pointer (some ⟨b92, 0, none⟩))]) (fun q => ((b92, .mapIter (some b41) hc (q.map (·.n)).toArray hc) :: (s5, .cells #[.int .i64 m.q, .int .i64 m.sz, .map (some mb6)] 87 (0, 0)) :: (mb6, mapO keyV en8V m.l m.c) :: (b41, mapO keyV BSl.v hl hc) :: (0, .cells (wfV 8 (s8f shaB)).cells 130 (0, 0)) :: (1, .cells (wfV 64 (gtf shaK)).cells 257 (0, 0)) :: HX)) (fun q => (∀ e ∈ q, e ∈ hl) ∧ ((q.map (·.n)).Nodup)) (fun q => hl.length - q.length) [] ⟨(fun e h => nomatch h), List.nodup_nil⟩ ⟨rfl, rfl, rfl, rfl, rfl, trivial⟩ ?_))))))))
    rintro es ⟨hsub, hndp⟩
    refine sq (pl (TE_nextM (ek := keyV) (ev := BSl.v) (l := hl) (seen := (es.map (·.n)).toArray) (i := 0) (j := 3) rfl rfl trivial rfl rfl rfl (hI.hk).lt (Nat.le_refl _) (.inl hb92) (fun hall45 => ?_) (fun e42 he43 hns44 => ?_)))
    ·refine qe rfl (n0 (sq (pn_condF rfl (xt (sq (pn_plain [11] rfl (qm rfl (qm rfl (qg rfl ?_)))))))))
     refine cG rfl call23 (fun w hw => c_stLen s5 mb6 m w hI.st hw.s) ?_
     rintro v46 H47 ⟨rfl, rfl⟩ -
     refine qg rfl (ql rfl (RD.lenM (i := 3) (l := hl) runUnderlying65 rfl rfl) (TE_gq rfl rfl rfl rfl (RD.eql rfl rfl) rfl (qT rfl (qm rfl (TE_dec (fun hf48 => ?_) (fun hf48 => ?_))))))
     ·refine qg rfl (cG rfl call37 (fun w hw => c_stIDs s5 mb6 m w hI.st hw.s) ?_)
      rintro v55 H56 ⟨ts49, st51, hset50, hbo52, rfl, rfl⟩ hX53
      have hRD54 := hbo52.rdx (u := 36) idC_len
      refine tsp ((b92, .mapIter (some b41) hc (es.map (·.n)).toArray hc) :: (s5, .cells #[.int .i64 m.q, .int .i64 m.sz, .map (some mb6)] 87 (0, 0)) :: (mb6, mapO keyV en8V m.l m.c) :: (b41, mapO keyV BSl.v hl hc) :: (0, .cells (wfV 8 (s8f shaB)).cells 130 (0, 0)) :: (1, .cells (wfV 64 (gtf shaK)).cells 257 (0, 0)) :: ((bldMx 36 (idC) ts49 st51) ++ HX)) (TE_gq rfl rfl rfl rfl (RD.lenX runUnderlying44 rfl hRD54) rfl (qg rfl (ql rfl (RD.lenM (i := 3) (l := hl) runUnderlying65 rfl rfl) (TE_gq rfl rfl rfl rfl (RD.eql rfl rfl) rfl (qT rfl (qm rfl (TE_dec (fun hf57 => ?_) (fun hf57 => ?_))))))))
      ·refine qg rfl (cG rfl call38 (fun w hw => c_stSize s5 mb6 m w hI.st hw.s) ?_)
       rintro v58 H59 ⟨rfl, rfl⟩ -
       refine qg rfl (TE_gq rfl rfl rfl rfl (RD.leq rfl rfl) rfl (qT rfl (qm rfl (TE_dec (fun hf60 => ?_) (fun hf60 => ?_)))))
       ·refine qg rfl (cG rfl call22 (fun w hw => c_stLeft s5 mb6 m w hI.st hw.s) ?_)
        rintro v61 H62 ⟨rfl, rfl⟩ -
        refine qg rfl (qg rfl (cG rfl call38 (fun w hw => c_stSize s5 mb6 m w hI.st hw.s) ?_))
        rintro v63 H64 ⟨rfl, rfl⟩ -
        exact TE_gq rfl rfl rfl rfl (RD.subI rfl rfl (by omega) (by omega)) rfl (TE_gq rfl rfl rfl rfl (RD.eql rfl rfl) rfl (qT rfl (qa rfl (n0 (rt (pn_doneS [] rfl rfl ⟨(congrArg Value.bool (decide_eq_true (by have h1 := keep_len hI; have h3 := hI.q; have h4 := hI.st.sq; have h5 := hI.st.s0; have h2 := ids_len hI.st hset50; omega))), rfl⟩ (fun _ => Nat.zero_le _) (fun _ he => nomatch he)))))))
       ·refine qs rfl (qs rfl (qs rfl (qs rfl (qs rfl (qs rfl (qs rfl (qF rfl (qa rfl (n0 ?_)))))))))
        exact rt (pn_doneS [] rfl rfl ⟨(absurd (by have h1 := keep_len hI; have h3 := hI.q; have h4 := hI.st.sq; have h5 := hI.st.s0; have h2 := ids_len hI.st hset50; omega) hf60), rfl⟩ (fun _ => Nat.zero_le _) (fun _ he => nomatch he))
      ·refine qs rfl (qs rfl (qs rfl (qs rfl (qF rfl (qm rfl (qs rfl (qs rfl (qs rfl (qs rfl ?_)))))))))
       exact qs rfl (qs rfl (qs rfl (qF rfl (qa rfl (n0 (rt (pn_doneS [] rfl rfl ⟨(absurd (by have h1 := keep_len hI; have h3 := hI.q; have h4 := hI.st.sq; have h5 := hI.st.s0; have h2 := ids_len hI.st hset50; omega) hf57), rfl⟩ (fun _ => Nat.zero_le _) (fun _ he => nomatch he))))))))
     ·refine qs rfl (qs rfl (qs rfl (qs rfl (qs rfl (qs rfl (qF rfl (qm rfl (qs rfl (qs rfl ?_)))))))))
      refine qs rfl (qs rfl (qF rfl (qm rfl (qs rfl (qs rfl (qs rfl (qs rfl (qs rfl (qs rfl ?_)))))))))
      exact qs rfl (qF rfl (qa rfl (n0 (rt (pn_doneS [] rfl rfl ⟨(absurd (by have h1 := keep_len hI; have h3 := hI.q; have h4 := hI.st.sq; have h5 := hI.st.s0; omega) hf48), rfl⟩ (fun _ => Nat.zero_le _) (fun _ he => nomatch he))))))
    ·refine qe rfl (n0 (sq (pn_condT rfl (sk (pn_block (sq (pl (ql rfl (RD.entryM (ek := keyV) (ev := BSl.v) (l := hl) (e := e42) (i := 0) (j := 3) rfl rfl rfl hI.hk he43) (qe rfl ?_)))))))))
     refine qe rfl (TE_allocC (idV (fun _ => 0)).cells rfl zeroValue36 rfl trivial rfl fun b14 hb14 => (TE_putCW 0 _ _ ((b14, .cells (idV (tipOf e42.k.1)).cells 36 (0, 0)) :: (b92, .mapIter (some b41) hc ((es.map (·.n)).toArray.push e42.n) hc) :: (s5, .cells #[.int .i64 m.q, .int .i64 m.sz, .map (some mb6)] 87 (0, 0)) :: (mb6, mapO keyV en8V m.l m.c) :: (b41, mapO keyV BSl.v hl hc) :: (0, .cells (wfV 8 (s8f shaB)).cells 130 (0, 0)) :: (1, .cells (wfV 64 (gtf shaK)).cells 257 (0, 0)) :: HX) rfl sizeOf36 trivial rfl rfl rfl rfl rfl rfl rfl rfl (.inl hb14) (qa rfl (n0 (sq (pl (qm rfl (ql rfl (RD.loadA (i := 0) isAgg36 sizeOf36 rfl rfl (Nat.le_of_ble_eq_true rfl) (id_all _)) (cG rfl call20 (fun w hw => c_stGet s5 mb6 m (tipOf e42.k.1) w hI.st (tip_ok _) hw.s) ?_)))))))))
     rintro v69 H70 ⟨st65, hbo66, rfl, rfl⟩ hX67
     have hRD68 := hbo66.rdx (u := 5) byteC_len
     refine tsp ((b14, .cells (idV (tipOf e42.k.1)).cells 36 (0, 0)) :: (b92, .mapIter (some b41) hc ((es.map (·.n)).toArray.push e42.n) hc) :: (s5, .cells #[.int .i64 m.q, .int .i64 m.sz, .map (some mb6)] 87 (0, 0)) :: (mb6, mapO keyV en8V m.l m.c) :: (b41, mapO keyV BSl.v hl hc) :: (0, .cells (wfV 8 (s8f shaB)).cells 130 (0, 0)) :: (1, .cells (wfV 64 (gtf shaK)).cells 257 (0, 0)) :: ((bldMx 5 (byteC) ((get8 m (kOf (tipOf e42.k.1))).raw.data.toList) st65) ++ HX)) (qm rfl (qe rfl (qe rfl (qa rfl (qa rfl (n0 (sq (pl (qm rfl ?_)))))))))
     refine qq rfl (RD.not rfl) (qm rfl (TE_join (σ := Unit) (fun _ => [(0, .int .i64 qt), (5, .bool true), (6, .pointer (some ⟨s5, 0, none⟩)), (8, .map (some b41)), (92, .pointer (some ⟨b92, 0, none⟩)), (112, .bool ((!(has8 m (kOf (tipOf e42.k.1)))) || (!decide ((⟨((get8 m (kOf (tipOf e42.k.1))).raw.data.toList).toArray⟩ : ByteArray) = (⟨e42.v.b.toArray⟩ : ByteArray)))))]) (fun _ => ((b14, .cells (idV (tipOf e42.k.1)).cells 36 (0, 0)) :: (b92, .mapIter (some b41) hc ((es.map (·.n)).toArray.push e42.n) hc) :: (s5, .cells #[.int .i64 m.q, .int .i64 m.sz, .map (some mb6)] 87 (0, 0)) :: (mb6, mapO keyV en8V m.l m.c) :: (b41, mapO keyV BSl.v hl hc) :: (0, .cells (wfV 8 (s8f shaB)).cells 130 (0, 0)) :: (1, .cells (wfV 64 (gtf shaK)).cells 257 (0, 0)) :: ((bldMx 5 byteC ((get8 m (kOf (tipOf e42.k.1))).raw.data.toList) st65) ++ HX))) (fun _ => True) ?_ ?_))
     ·refine TE_bool (fun hf71 => ?_) (fun hf71 => ?_)
      ·exact qs rfl (qs rfl (qs rfl (qs rfl (qs rfl (qT rfl (n0 (pn_give () trivial ⟨rfl, rfl, rfl, rfl, rfl, congrArg (fun b => some (Value.bool b)) (by first | (simp [hf71]; done) | (simp only [hf71]; rfl) | (simp only [hf71]; simp; done)), trivial⟩ sb)))))))
      ·exact qg rfl (ql rfl (RD.str_of_bytes underlying32 underlying9 underlying5 rfl (BytesIn.mono ((Rdb.of_x hRD68)).bytes sb)) (qg rfl (ql rfl (RD.str_of_bytes underlying32 underlying9 underlying5 rfl (BytesIn.mono (((textsB_ok hbkl) e42.v (hI.h e42 he43).1)).bytes sb)) (TE_gq rfl rfl rfl rfl (RD.neq_string rfl rfl) rfl (qF rfl (n0 (pn_give () trivial ⟨rfl, rfl, rfl, rfl, rfl, congrArg (fun b => some (Value.bool b)) (by first | (simp [hf71]; done) | (simp only [hf71]; rfl) | (simp only [hf71]; simp; done)), trivial⟩ sb)))))))
     rintro _ -
     refine pn_cond rfl (fun hc72 => ?_) (fun hc72 => ?_)
     ·exfalso
      have ⟨q1, q2⟩ := keep_get hI hcl he43; rw [← kOf_tip e42.k] at q1 q2; simp [q1, q2] at hc72
     ·simp only [Bool.not_eq_false', Bool.or_eq_false_iff, decide_eq_true_eq] at hc72
      refine sk ?_
      have he73 : (es.map (·.n)).toArray.push e42.n = (((es ++ [e42])).map (·.n)).toArray := by simp
      exact pn_sp ((b14, .cells (idV (tipOf e42.k.1)).cells 36 (0, 0)) :: (b92, .mapIter (some b41) hc ((es ++ [e42]).map (·.n)).toArray hc) :: (s5, .cells #[.int .i64 m.q, .int .i64 m.sz, .map (some mb6)] 87 (0, 0)) :: (mb6, mapO keyV en8V m.l m.c) :: (b41, mapO keyV BSl.v hl hc) :: (0, .cells (wfV 8 (s8f shaB)).cells 130 (0, 0)) :: (1, .cells (wfV 64 (gtf shaK)).cells 257 (0, 0)) :: ((bldMx 5 byteC ((get8 m (kOf (tipOf e42.k.1))).raw.data.toList) st65) ++ HX)) (fun a => by rw [he73]; exact Nat.le_refl _) (agS (es ++ [e42]) ⟨(seen_sub hsub he43), (seen_nd hndp hns44)⟩ (by have h9 := seen_lt hsub hndp he43 hns44; simp only [List.length_append, List.length_cons, List.length_nil]; omega) ⟨rfl, rfl, rfl, rfl, rfl, trivial⟩)
end Go.Proofs.YtmjmaloapafnlaaGreatDoor

namespace Go.Proofs.YtmjmaloapafnlaaGreatDoor
open Go Go.Mv Go.ChangeShapes
set_option maxRecDepth 100000
theorem cellsO_bs : Tryz.prog.cellsOf 32 = 1 := by kernel_rfl
theorem cellsO_op : Tryz.prog.cellsOf 67 = 2 := by kernel_rfl
section
variable {H : Type} {enc : TypeId × Value → H} {W : World}
def rawC (r : Int × Value) : List Value := [.int .i64 r.1, r.2]
def rawOk {H : Type} (enc : TypeId × Value → H) (W : World) (r : Int × Value) : Prop := ∃ n y, DataW.trod enc Tryz.prog W 0 (fun _ => true) true n 30 [r.2] = some y
theorem open_rawOp {n : Nat} {cs : List Value} {x : DataW H × List MemPlace} (h : DataW.trod enc Tryz.prog W 0 (fun _ => true) true n 67 cs = some x) : ∃ r, cs = rawC r ∧ rawOk enc W r := by
  obtain ⟨hl, hf⟩ := trod_field Tryz.underlying67 h
  rw [cellsO_op] at hl
  obtain ⟨m0, y0, h0⟩ := hf 0 _ rfl
  obtain ⟨m1, y1, h1⟩ := hf 1 _ rfl
  have h0 : DataW.trod enc Tryz.prog W 0 (fun _ => true) true m0 3 ((cs.drop 0).take (Tryz.prog.cellsOf 3)) = some y0 := h0
  have h1 : DataW.trod enc Tryz.prog W 0 (fun _ => true) true m1 30 ((cs.drop 1).take (Tryz.prog.cellsOf 30)) = some y1 := h1
  obtain ⟨k, hk, _, _⟩ := DataW.trod_int Tryz.underlying3 h0
  obtain ⟨v, hv⟩ := trod_cell Tryz.underlying30 h1
  refine ⟨(k, v), ?_, m1, y1, by rw [← hv]; exact h1⟩
  have e0 := at0 hk
  have e1 := at0 hv
  match cs, hl with
  | [a, b], _ =>
    simp only [List.getElem?_cons_zero, List.getElem?_cons_succ, Option.some.injEq] at e0 e1
    rw [e0, e1]; rfl
theorem open_eachOp : ∀ (rs : List (Int × Value)), (∀ r ∈ rs, rawOk enc W r) → ∀ HZ, Hp HZ W → ∃ HA, ∃ l : List OpM, Hp (HA ++ HZ) W ∧ l.map (fun o => (o.k, o.v)) = rs ∧ OpsOk (HA ++ HZ) l ∧ ∀ o ∈ l, o.l.length ≤ 9223372036854775807
  | [], _, HZ, hH => ⟨[], [], hH, rfl, (fun x hx => nomatch hx), (fun x hx => nomatch hx)⟩
  | r :: rs, hr, HZ, hH => by
    obtain ⟨HA, l, hA, hl, hok, hle⟩ := open_eachOp rs (fun x hx => hr x (List.mem_cons_of_mem _ hx)) HZ hH
    obtain ⟨n, y, hn⟩ := hr r List.mem_cons_self
    obtain ⟨HB, bs, hB, hb, hbs, hbl⟩ := open_bss Tryz.underlying30 Tryz.underlying32 cellsO_bs cellsO_u8 (fun n cs x h => open_byteT h) hn (HA ++ HZ) hA
    obtain ⟨a, c, hv⟩ := hb.shape
    have e : (OpM.v ⟨r.1, a, c, bs⟩) = r.2 := hv.symm
    refine ⟨HB ++ HA, ⟨r.1, a, c, bs⟩ :: l, by rw [List.append_assoc]; exact hB, by rw [List.map_cons, hl, e], fun x hx => ?_, fun x hx => ?_⟩
    · rw [List.append_assoc]
      rcases List.mem_cons.1 hx with rfl | hx
      · exact ⟨by rw [e]; exact hb, hbs⟩
      · exact ⟨(hok x hx).1.mono Hp_app, (hok x hx).2.mono Hp_app⟩
    · rcases List.mem_cons.1 hx with rfl | hx
      · exact hbl
      · exact hle x hx
/-- Calls that come in. -/
theorem open_ops {r : Reach} {b0 : Nat} {v : Value} {d : DataW H} {p : List MemPlace} (hval : Value.okWide Tryz.prog W r b0 22 v) (h : DataW.Trod enc Tryz.prog W 0 (fun _ => true) true 22 v d p) (HZ : Mem) (hH : Hp HZ W) :
    ∃ HA l, Hp (HA ++ HZ) W ∧ Rdx 2 opC (HA ++ HZ) v l ∧ OpsOk (HA ++ HZ) l ∧ (l.length ≤ 9223372036854775807 ∧ ∀ o ∈ l, o.l.length ≤ 9223372036854775807) := by
  obtain ⟨a0, l0, c0, rfl⟩ := WideShapes.okWide_slice Tryz.underlying22 hval
  obtain ⟨n, hn⟩ := h
  obtain ⟨HA, rs, hA, hrs, hok, hlen⟩ := open_slT (ec := rawC) (ok := rawOk enc W) Tryz.underlying22 cellsO_op (by decide) (fun _ => rfl) (fun n cs x h => open_rawOp h) (show DataW.trod enc Tryz.prog W 0 (fun _ => true) true n 22 [.slice a0 l0 c0] = some (d, p) from hn) HZ hH
  obtain ⟨HB, l, hB, hl, hops, hle⟩ := open_eachOp rs hok (HA ++ HZ) hA
  subst hl
  refine ⟨HB ++ HA, l, by rw [List.append_assoc]; exact hB, ?_, by rw [List.append_assoc]; exact hops, by simpa using hlen, hle⟩
  rw [List.append_assoc]
  have h9 := hrs.mono (H' := HB ++ (HA ++ HZ)) Hp_app
  rcases h9 with ⟨hn, he⟩ | ⟨b, off, cap, hv, hc, hcell⟩
  · exact .inl ⟨hn, by simpa using he⟩
  · refine .inr ⟨b, off, cap, by rw [hv]; simp, by simpa using hc, fun w hw i x hi j u hu => ?_⟩
    refine hcell w hw i (x.k, x.v) (by rw [List.getElem?_map, hi]; rfl) j u ?_
    simpa [opC, rawC, OpM.v] using hu
end
end Go.Proofs.YtmjmaloapafnlaaGreatDoor

namespace Go.Proofs.YtmjmaloapafnlaaGreatDoor
open Go Go.Mv
set_option maxRecDepth 100000
def beginZ : List Int := S8.l shaB |>.map fun a => (a.toNat : Int)
def factorsZ : List Int := shaK.map fun a => (a.toNat : Int)
theorem begin_is : (Rows.laid_marshes_hash_begin : DataW Unit) = Go.Lib.tabData .u32 beginZ := by kernel_rfl
theorem factors_is : (Rows.laid_marshes_hash_factors : DataW Unit) = Go.Lib.tabData .u32 factorsZ := by kernel_rfl
theorem begin_cells : (beginZ.map fun z => Value.int .u32 z) = (wfV 8 (s8f shaB)).cells.toList := by kernel_rfl
theorem factors_cells : (factorsZ.map fun z => Value.int .u32 z) = (wfV 64 (gtf shaK)).cells.toList := by kernel_rfl
/-- The listed tables, as they lie. -/
theorem laid_hash {W : World} (hsh : W.ShapedOpen Tryz.prog) (hL : laidMetH Tryz.prog [("marshes/hash.begin", Rows.laid_marshes_hash_begin), ("marshes/hash.factors", Rows.laid_marshes_hash_factors)] W) :
    Hp [(0, .cells (wfV 8 (s8f shaB)).cells 130 (0, 0)), (1, .cells (wfV 64 (gtf shaK)).cells 257 (0, 0))] W := by
  have hL : laidMet Tryz.prog [("marshes/hash.begin", Rows.laid_marshes_hash_begin), ("marshes/hash.factors", Rows.laid_marshes_hash_factors)] W := hL
  have hL2 : laidMet Tryz.prog [("marshes/hash.factors", Rows.laid_marshes_hash_factors)] W := laidMet.filter (fun x => x.1 == "marshes/hash.factors") hL
  rw [begin_is] at hL
  rw [factors_is] at hL2
  have v1 : W.var? Tryz.prog "marshes/hash.begin" = some (beginZ.map fun z => Value.int .u32 z).toArray := Go.Lib.tabIs_of_head (g := 0) (t := 130) (e := 129) (n := 8) (by kernel_rfl) (by kernel_rfl) Tryz.underlying130 Tryz.underlying129 (by kernel_rfl) (by kernel_rfl) hL
  have v2 : W.var? Tryz.prog "marshes/hash.factors" = some (factorsZ.map fun z => Value.int .u32 z).toArray := Go.Lib.tabIs_of_head (g := 1) (t := 257) (e := 129) (n := 64) (by kernel_rfl) (by kernel_rfl) Tryz.underlying257 Tryz.underlying129 (by kernel_rfl) (by kernel_rfl) hL2
  obtain ⟨c1, h1, _⟩ := hsh.1 0 (List.replicate 8 (Value.int .u32 0)).toArray 130 (of_decide_eq_true (by kernel_rfl)) (by kernel_rfl)
  obtain ⟨c2, h2, _⟩ := hsh.1 1 (List.replicate 64 (Value.int .u32 0)).toArray 257 (of_decide_eq_true (by kernel_rfl)) (by kernel_rfl)
  have g1 : Tryz.prog.globalNamed "marshes/hash.begin" = some 0 := by kernel_rfl
  have g2 : Tryz.prog.globalNamed "marshes/hash.factors" = some 1 := by kernel_rfl
  have e1 : c1 = (wfV 8 (s8f shaB)).cells := by
    unfold World.var? at v1
    rw [g1] at v1
    simp only [Option.bind_some, h1] at v1
    rw [Option.some.inj v1, begin_cells]
  have e2 : c2 = (wfV 64 (gtf shaK)).cells := by
    unfold World.var? at v2
    rw [g2] at v2
    simp only [Option.bind_some, h2] at v2
    rw [Option.some.inj v2, factors_cells]
  subst e1; subst e2
  refine ⟨fun e he => ?_, by simp⟩
  simp only [List.mem_cons, List.not_mem_nil, or_false] at he
  rcases he with rfl | rfl
  · exact h1
  · exact h2
end Go.Proofs.YtmjmaloapafnlaaGreatDoor
