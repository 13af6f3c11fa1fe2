import Derived.Test.YtcmnmigcalibdaaGreatDoorGbb
import Derived.Test.YtcmnmigcalibdaaGreatDoorRows
import Derived.Lib.LaidTab
import Derived.LaidSub
import Derived.Test.YtcmnmigcalibdaaGreatDoorCards
import Derived.Test.YtcmnmigcalibdaaGreatDoorTie
namespace Go.Proofs.YtcmnmigcalibdaaGreatDoor
open Go.Proofs.Tryz
open Go Go.Mv
set_option maxRecDepth 8000
theorem bsOk_take {H : Mem} {l : List BSl} {n : Nat} (h : BsOk H l) : BsOk H (l.take n) := fun x hx => h x (List.mem_of_mem_take hx)
section
variable {m : St8} {T : List BSl} {ts ts' : List (Nat → Int)}
theorem whole_same (h : ¬ (putAll8 m T).2.2 = 0) (h1 : SetOf (ids8 m) ts) (h2 : SetOf (ids8 (putAll8 m T).1) ts') : idsB ts' ts = true := by
  rw [(whole_err h).2.1] at h2
  rw [h2.uniq h1]; exact idsB_self _
theorem whole_less (h : (putAll8 m T).2.2 = 0) (h1 : SetOf (ids8 m) ts) (h2 : SetOf (ids8 (putAll8 m T).1) ts') : lessI ts ts' = [] := less_nil (ids_sub (whole_ok h).2 h1 h2)
theorem whole_sz (h : ¬ (putAll8 m T).2.2 = 0) : (putAll8 m T).1.sz = m.sz := by rw [(whole_err h).2.1]
theorem whole_k (h : ¬ (putAll8 m T).2.2 = 0) : (putAll8 m (T.take (putAll8 m T).2.1)).2.2 = 0 ∧ (putAll8 m (T.take (putAll8 m T).2.1)).2.1 = (putAll8 m T).2.1 := by rw [(whole_err h).2.2]; exact ⟨rfl, rfl⟩
theorem whole_min (n k : Nat) (h : n ≤ k) : Value.int .i64 (if (k : Int) < (n : Int) then (k : Int) else (n : Int)) = .int .i64 (n : Int) := by rw [if_neg (by omega)]
theorem set_okI (h1 : SetOf (ids8 m) ts) : ∀ x ∈ ts, IdOk x := fun x hx => by
  obtain ⟨k, _, rfl⟩ := ids_key.1 ((h1.2 x).1 hx); exact tip_ok _
end
set_option maxHeartbeats 8000000 in
theorem c_StoreWhole (qt : Int) (lv : Value) (l : List OpM) (HX : Mem) (w : World) (hbl : Rdx 2 (opC) ((0, .cells (wfV 8 (s8f shaB)).cells 151 (0, 0)) :: (1, .cells (wfV 64 (gtf shaK)).cells 286 (0, 0)) :: HX) lv l) (hbkl : OpsOk ((0, .cells (wfV 8 (s8f shaB)).cells 151 (0, 0)) :: (1, .cells (wfV 64 (gtf shaK)).cells 286 (0, 0)) :: HX) l) (hll : l.length ≤ 9223372036854775807 ∧ ∀ o ∈ l, o.l.length ≤ 9223372036854775807) (hH : Hp ((0, .cells (wfV 8 (s8f shaB)).cells 151 (0, 0)) :: (1, .cells (wfV 64 (gtf shaK)).cells 286 (0, 0)) :: HX) w) : Calls Tryz.prog 7 #[.int .i64 qt, lv] w (Ret w [] fun v H1 => v = .bool true ∧ H1 = []) := by
 refine fn_enter (args := [_, _]) func7 rfl ntmps7 rfl hH (sq (pl (qa rfl (n0 (sq (pl (cG rfl call15 (fun w hw => c_alive8  w  hw.s) ?_)))))))
 rintro v1 H2 ⟨rfl, rfl⟩ -
 refine qa rfl (n0 (sq (pl (qm rfl (cG rfl call19 (fun w hw => c_stNew qt w  hw.s) ?_)))))
 rintro v9 H10 (⟨hq3, rfl, rfl⟩ | ⟨hq4, s5, mb6, rfl, rfl⟩) hX11
 ·refine qm rfl (qe rfl (qe rfl (qa rfl (qa rfl (n0 (sq (sq (pl (qm rfl ?_)))))))))
  refine cG rfl call17 (fun w hw => c_great8 lv l ((0, .cells (wfV 8 (s8f shaB)).cells 151 (0, 0)) :: (1, .cells (wfV 64 (gtf shaK)).cells 286 (0, 0)) :: HX) w hbl.s (fun x hx => ⟨(hbkl x hx).1.mono sb, (hbkl x hx).2.mono sb⟩) hll hw.s) ?_
  rintro v12 H13 ⟨rfl, rfl⟩ -
  refine qm rfl (TE_join (σ := Unit) (fun _ => [(1, lv), (5, .bool true), (6, .pointer none), (37, .bool true)]) (fun _ => ((0, .cells (wfV 8 (s8f shaB)).cells 151 (0, 0)) :: (1, .cells (wfV 64 (gtf shaK)).cells 286 (0, 0)) :: HX)) (fun _ => True) ?_ ?_)
  ·refine TE_bool (fun hf14 => ?_) (fun hf14 => ?_)
   ·refine qs rfl (qs rfl (qT rfl (qm rfl (qs rfl (qs rfl (qT rfl (qm rfl (qs rfl (qs rfl ?_)))))))))
    exact qs rfl (qs rfl (qT rfl (n0 (pn_give () trivial ⟨rfl, rfl, rfl, rfl, trivial⟩ sb))))
   ·refine qg rfl (TE_gq rfl rfl rfl rfl (RD.as (v := .bool true) (RD.neq rfl rfl) rfl) rfl (qF rfl (qm rfl (qs rfl (qs rfl (qT rfl (qm rfl (qs rfl (qs rfl ?_)))))))))
    exact qs rfl (qs rfl (qT rfl (n0 (pn_give () trivial ⟨rfl, rfl, rfl, rfl, trivial⟩ sb))))
  rintro _ -
  exact pn_condT rfl (sq (pl (qm rfl (qa rfl (n0 (rt (pn_doneS [] rfl rfl ⟨rfl, rfl⟩ (fun _ => Nat.zero_le _) (fun _ he => nomatch he))))))))
 ·have hst8 : StOk (⟨qt, 0, [], 0⟩ : St8) := st0_ok hq4; refine TE_sp ((s5, .cells #[.int .i64 ((⟨qt, 0, [], 0⟩ : St8).q), .int .i64 ((⟨qt, 0, [], 0⟩ : St8).sz), .map (some mb6)] 69 (0, 0)) :: (mb6, mapO keyV en8V ((⟨qt, 0, [], 0⟩ : St8).l) ((⟨qt, 0, [], 0⟩ : St8).c)) :: (0, .cells (wfV 8 (s8f shaB)).cells 151 (0, 0)) :: (1, .cells (wfV 64 (gtf shaK)).cells 286 (0, 0)) :: HX) (fun a => by simp -failIfUnchanged <;> omega) ?_
  refine qm rfl (qe rfl (qe rfl (qa rfl (qa rfl (n0 (sq (sq (pl (qm rfl ?_)))))))))
  refine cG rfl call17 (fun w hw => c_great8 lv l ((0, .cells (wfV 8 (s8f shaB)).cells 151 (0, 0)) :: (1, .cells (wfV 64 (gtf shaK)).cells 286 (0, 0)) :: HX) w hbl.s (fun x hx => ⟨(hbkl x hx).1.mono sb, (hbkl x hx).2.mono sb⟩) hll hw.s) ?_
  rintro v15 H16 ⟨rfl, rfl⟩ -
  refine qm rfl (TE_join (σ := Unit) (fun _ => [(1, lv), (5, .bool true), (6, .pointer (some ⟨s5, 0, none⟩)), (37, .bool ((greatOps l) || (decide (0 < (clashI (textsB l))))))]) (fun _ => ((s5, .cells #[.int .i64 ((⟨qt, 0, [], 0⟩ : St8).q), .int .i64 ((⟨qt, 0, [], 0⟩ : St8).sz), .map (some mb6)] 69 (0, 0)) :: (mb6, mapO keyV en8V ((⟨qt, 0, [], 0⟩ : St8).l) ((⟨qt, 0, [], 0⟩ : St8).c)) :: (0, .cells (wfV 8 (s8f shaB)).cells 151 (0, 0)) :: (1, .cells (wfV 64 (gtf shaK)).cells 286 (0, 0)) :: HX)) (fun _ => True) ?_ ?_)
  ·refine TE_bool (fun hf17 => ?_) (fun hf17 => ?_)
   ·refine qs rfl (qs rfl (qT rfl (qm rfl (qs rfl (qs rfl (qT rfl (qm rfl (qs rfl (qs rfl ?_)))))))))
    exact qs rfl (qs rfl (qT rfl (n0 (pn_give () trivial ⟨rfl, rfl, rfl, congrArg (fun b => some (Value.bool b)) (by first | (simp [hf17]; done) | (simp only [hf17]; rfl) | (simp only [hf17]; simp; done)), trivial⟩ sb))))
   ·refine qg rfl (TE_gq rfl rfl rfl rfl (RD.as (v := .bool false) (RD.neq rfl rfl) rfl) rfl (qF rfl (qm rfl (qg rfl (TE_gq rfl rfl rfl rfl (RD.as (v := .bool false) (RD.not rfl) rfl) rfl (qF rfl (qm rfl (qg rfl (cG rfl call16 (fun w hw => c_texts8 lv l ((0, .cells (wfV 8 (s8f shaB)).cells 151 (0, 0)) :: (1, .cells (wfV 64 (gtf shaK)).cells 286 (0, 0)) :: HX) w hbl.s (fun x hx => ⟨(hbkl x hx).1.mono sb, (hbkl x hx).2.mono sb⟩) hll (Nat.le_trans (textsB_le hf17) (by decide)) hw.s) ?_)))))))))
    rintro v22 H23 ⟨st18, hbo19, rfl, rfl⟩ hX20
    have hRD21 := hbo19.rdx (u := 32) bsC_len
    refine tsp ((s5, .cells #[.int .i64 ((⟨qt, 0, [], 0⟩ : St8).q), .int .i64 ((⟨qt, 0, [], 0⟩ : St8).sz), .map (some mb6)] 69 (0, 0)) :: (mb6, mapO keyV en8V ((⟨qt, 0, [], 0⟩ : St8).l) ((⟨qt, 0, [], 0⟩ : St8).c)) :: (0, .cells (wfV 8 (s8f shaB)).cells 151 (0, 0)) :: (1, .cells (wfV 64 (gtf shaK)).cells 286 (0, 0)) :: ((bldMx 32 (bsC) (textsB l) st18) ++ HX)) (cG rfl call18 (fun w hw => c_clash8 (bldVx (textsB l) st18) (textsB l) ((0, .cells (wfV 8 (s8f shaB)).cells 151 (0, 0)) :: (1, .cells (wfV 64 (gtf shaK)).cells 286 (0, 0)) :: ((bldMx 32 (bsC) (textsB l) st18) ++ HX)) w hRD21.s ((textsB_ok hbkl).mono sb) (Nat.le_trans (textsB_le hf17) (by decide)) (fun x hx => Nat.le_trans (textsB_b hf17 x hx) (by decide)) hw.s) ?_)
    rintro v24 H25 ⟨rfl, rfl⟩ -
    exact TE_gq rfl rfl rfl rfl (RD.gtr rfl rfl) rfl (qF rfl (n0 (pn_give () trivial ⟨rfl, rfl, rfl, congrArg (fun b => some (Value.bool b)) (by first | (simp [hf17]; done) | (simp only [hf17]; rfl) | (simp only [hf17]; simp; done)), trivial⟩ sb)))
  rintro _ -
  refine pn_cond rfl (fun hc26 => ?_) (fun hc26 => ?_)
  ·simp only [Bool.or_eq_true, decide_eq_true_eq] at hc26
   exact sq (pl (qm rfl (qa rfl (n0 (rt (pn_doneS [] rfl rfl ⟨rfl, rfl⟩ (fun _ => Nat.zero_le _) (fun _ he => nomatch he)))))))
  ·simp only [Bool.or_eq_false_iff, decide_eq_false_iff_not] at hc26
   have hgr := hc26.1; have hcl := clashI_0 hc26.2
   have hll1 := hll.1
   refine sk (sq (sq (pn_plain [1] rfl (qm rfl (qq rfl (RD.lenX runUnderlying22 rfl hbl) (qm rfl (n0 (pn_block (lpS (σ := Nat × Nat × St8) (fun q => [(1, lv), (5, .bool true), (6, .pointer (some ⟨s5, 0, none⟩)), (40, .int .i64 (l.length : Int)), (41, .int .i64 (q.1 : Int))]) (fun q => ((s5, .cells #[.int .i64 q.2.2.q, .int .i64 q.2.2.sz, .map (some q.2.1)] 69 (0, 0)) :: (q.2.1, mapO keyV en8V q.2.2.l q.2.2.c) :: (0, .cells (wfV 8 (s8f shaB)).cells 151 (0, 0)) :: (1, .cells (wfV 64 (gtf shaK)).cells 286 (0, 0)) :: HX)) (fun q => (q.1 ≤ l.length) ∧ (StOk q.2.2) ∧ (w.heap.size ≤ q.2.1 ∨ q.2.1 ∈ []) ∧ (q.2.2.l.length ≤ 8 * q.1)) (fun q => l.length - q.1) (0, mb6, (⟨qt, 0, [], 0⟩ : St8)) ⟨(by omega), hst8, (.inl (hX11 _ (List.mem_cons_of_mem _ List.mem_cons_self))), (Nat.le_refl _)⟩ ⟨rfl, rfl, rfl, rfl, rfl, trivial⟩ ?_)))))))))
   rintro ⟨i, mb, m⟩ ⟨hi, hsm, hmb, hmn⟩
   dsimp only at hi hsm hmb hmn ⊢
   have hsm0 := hsm.s0; have hsm1 := hsm.sq; have hsm2 := hsm.q
   have hmn2 := hsm.n
   have hi8 : i < l.length → (gt l i).l.length ≤ 8 := fun h => ((greatOps_ok hgr).2 _ (gt_mem h)).1
   have hl40 := (greatOps_ok hgr).1
   refine sq (pl (qq rfl (RD.lss rfl rfl) (n0 (sq (pn_condD rfl (fun hc27 => ?_) (fun hc27 => ?_))))))
   ·refine sk (sq (pn_block (sq (pl (qm rfl (qa rfl (n0 (sq (pl ?_)))))))))
    refine qm rfl (cG rfl call24 (fun w hw => c_stIDs s5 mb m w hsm hw.s) ?_)
    rintro v34 H35 ⟨ts28, st30, hset29, hbo31, rfl, rfl⟩ hX32
    have hRD33 := hbo31.rdx (u := 35) idC_len
    refine tsp ((s5, .cells #[.int .i64 m.q, .int .i64 m.sz, .map (some mb)] 69 (0, 0)) :: (mb, mapO keyV en8V m.l m.c) :: (0, .cells (wfV 8 (s8f shaB)).cells 151 (0, 0)) :: (1, .cells (wfV 64 (gtf shaK)).cells 286 (0, 0)) :: ((bldMx 35 (idC) ts28 st30) ++ HX)) (qm rfl (cG rfl call25 (fun w hw => c_stSize s5 mb m w hsm hw.s) ?_))
    rintro v36 H37 ⟨rfl, rfl⟩ -
    refine qa rfl (qa rfl (n0 (sq (pl (qm rfl (cG rfl call36 (fun w hw => c_stCopy s5 mb m w hsm hw.s) ?_))))))
    rintro v41 H42 ⟨s38, mb39, rfl, rfl⟩ hX40
    refine tsp ((s38, .cells #[.int .i64 m.q, .int .i64 m.sz, .map (some mb39)] 69 (0, 0)) :: (mb39, mapO keyV en8V m.l m.c) :: (s5, .cells #[.int .i64 m.q, .int .i64 m.sz, .map (some mb)] 69 (0, 0)) :: (mb, mapO keyV en8V m.l m.c) :: (0, .cells (wfV 8 (s8f shaB)).cells 151 (0, 0)) :: (1, .cells (wfV 64 (gtf shaK)).cells 286 (0, 0)) :: ((bldMx 35 (idC) ts28 st30) ++ HX)) (qa rfl (n0 (sq ?_)))
    have hi9 := hi8 (by omega)
    have hb8 : ∀ x ∈ (gt l i).l, x.b.length ≤ 1000000 := fun x hx => Nat.le_trans (((greatOps_ok hgr).2 _ (gt_mem (by omega))).2 x hx) (by decide)
    refine pl (qm rfl (qm rfl (qm rfl (qq rfl (RD.idxR (i := i) (o := (i * 2 + 0)) runUnderlying22 sizeOf52 rfl hbl rfl rfl (by omega) (by rfl)) (qq rfl (RD.fldR (i := i) (o' := (i * 2 + 1)) runUnderlying52 rfl (by rfl) sizeOf24 rfl hbl (by omega)) (ql rfl (RD.ldR (i := i) (j := 1) (u := (OpM.v (gt l i))) isAgg24 rfl hbl (gt_some (by omega)) (by rfl) rfl sb) (cM [(s5, .cells #[.int .i64 m.q, .int .i64 m.sz, .map (some mb)] 69 (0, 0)), (mb, mapO keyV en8V m.l m.c)] ((s38, .cells #[.int .i64 m.q, .int .i64 m.sz, .map (some mb39)] 69 (0, 0)) :: (mb39, mapO keyV en8V m.l m.c) :: (0, .cells (wfV 8 (s8f shaB)).cells 151 (0, 0)) :: (1, .cells (wfV 64 (gtf shaK)).cells 286 (0, 0)) :: ((bldMx 35 idC ts28 st30) ++ HX)) rfl call22 (ownC (.inl (hX11 _ List.mem_cons_self)) (ownC (show _ from hmb) own0)) (fun w hw => c_stPutAll s5 mb m (OpM.v (gt l i)) ((gt l i).l) HX w hsm ((hbkl (gt l i) (gt_mem (by omega))).1.mono sb) ((hbkl (gt l i) (gt_mem (by omega))).2.mono sb) (by first | assumption | omega | (simp; done) | (simp; omega)) hb8 (by omega) hw.s) ?_)))))))
    rintro v46 H47 ⟨mb45, rfl, rfl⟩ hX43
    have hst44 := putAll_ok (T := ((gt l i).l)) hsm (by omega) hb8
    refine tsp ((s5, .cells #[.int .i64 (((putAll8 m ((gt l i).l)).1).q), .int .i64 (((putAll8 m ((gt l i).l)).1).sz), .map (some mb45)] 69 (0, 0)) :: (mb45, mapO keyV en8V (((putAll8 m ((gt l i).l)).1).l) (((putAll8 m ((gt l i).l)).1).c)) :: (s38, .cells #[.int .i64 m.q, .int .i64 m.sz, .map (some mb39)] 69 (0, 0)) :: (mb39, mapO keyV en8V m.l m.c) :: (0, .cells (wfV 8 (s8f shaB)).cells 151 (0, 0)) :: (1, .cells (wfV 64 (gtf shaK)).cells 286 (0, 0)) :: ((bldMx 35 (idC) ts28 st30) ++ HX)) (qm rfl (qe rfl (qe rfl (qa rfl (qa rfl (n0 (sq (sq (pl ?_)))))))))
    refine qm rfl (qq rfl (RD.neq rfl rfl) (n0 (pn_condN rfl (fun hc48 => ?_) (fun hc48 => ?_))))
    ·refine sq ?_
     have hpn := putAll_n (m := m) (T := (gt l i).l)
     refine dG [5, 11, 12, 13] [(s38, .cells #[.int .i64 m.q, .int .i64 m.sz, .map (some mb39)] 69 (0, 0)), (mb39, mapO keyV en8V m.l m.c)] ((s5, .cells #[.int .i64 (((putAll8 m ((gt l i).l)).1).q), .int .i64 (((putAll8 m ((gt l i).l)).1).sz), .map (some mb45)] 69 (0, 0)) :: (mb45, mapO keyV en8V (((putAll8 m ((gt l i).l)).1).l) (((putAll8 m ((gt l i).l)).1).c)) :: (0, .cells (wfV 8 (s8f shaB)).cells 151 (0, 0)) :: (1, .cells (wfV 64 (gtf shaK)).cells 286 (0, 0)) :: ((bldMx 35 idC ts28 st30) ++ HX)) (qm rfl (qm rfl (qm rfl (qq rfl (RD.idxR (i := i) (o := (i * 2 + 0)) runUnderlying22 sizeOf52 rfl hbl rfl rfl (by omega) (by rfl)) (qq rfl (RD.fldR (i := i) (o' := (i * 2 + 1)) runUnderlying52 rfl (by rfl) sizeOf24 rfl hbl (by omega)) (qq rfl (RD.ldR (i := i) (j := 1) (u := (OpM.v (gt l i))) isAgg24 rfl hbl (gt_some (by omega)) (by rfl) rfl sb) (qm rfl (qm rfl (qm rfl ?_)))))))))
     refine qq rfl (RD.idxR (i := i) (o := (i * 2 + 0)) runUnderlying22 sizeOf52 rfl hbl rfl rfl (by omega) (by rfl)) (qq rfl (RD.fldR (i := i) (o' := (i * 2 + 1)) runUnderlying52 rfl (by rfl) sizeOf24 rfl hbl (by omega)) (qq rfl (RD.ldR (i := i) (j := 1) (u := (OpM.v (gt l i))) isAgg24 rfl hbl (gt_some (by omega)) (by rfl) rfl sb) (qq rfl (RD.lenX runUnderlying24 rfl (hbkl (gt l i) (gt_mem (by omega))).1) (qq rfl (RD.as (v := .int .i64 ((putAll8 m ((gt l i).l)).2.1 : Int)) (RD.min2 rfl rfl) (whole_min _ _ hpn)) (qq rfl (RD.sliceX (l := 0) (h := (putAll8 m ((gt l i).l)).2.1) runUnderlying24 sizeOf32 rfl (hbkl (gt l i) (gt_mem (by omega))).1 rfl ⟨_, rfl⟩ (by omega) (by omega)) (cM [(s38, .cells #[.int .i64 m.q, .int .i64 m.sz, .map (some mb39)] 69 (0, 0)), (mb39, mapO keyV en8V m.l m.c)] [] rfl call22 (ownC (.inl (hX40 _ List.mem_cons_self)) (ownC (.inl (hX40 _ (List.mem_cons_of_mem _ List.mem_cons_self))) own0)) (fun w hw => c_stPutAll s38 mb39 m (subVx 1 0 ((putAll8 m ((gt l i).l)).2.1) (OpM.v (gt l i))) (((gt l i).l).take ((putAll8 m ((gt l i).l)).2.1)) HX w hsm ((show Rdx 1 (bsC) _ _ (((gt l i).l).take ((putAll8 m ((gt l i).l)).2.1)) from ((hbkl (gt l i) (gt_mem (by omega))).1.sub (l := 0) (r := (putAll8 m ((gt l i).l)).2.1) (by omega) (by omega))).mono sb) ((bsOk_take (hbkl (gt l i) (gt_mem (by omega))).2).mono sb) (by first | assumption | omega | (simp; done) | (simp; omega)) (fun x hx => hb8 x (List.mem_of_mem_take hx)) (by simp only [List.length_take]; omega) hw.s) ?_))))))
     rintro v52 H53 ⟨mb51, rfl, rfl⟩ hX49
     have hst50 := putAll_ok (T := (((gt l i).l).take ((putAll8 m ((gt l i).l)).2.1))) hsm (by simp only [List.length_take]; omega) (fun x hx => hb8 x (List.mem_of_mem_take hx))
     refine tsp [(s38, .cells #[.int .i64 (((putAll8 m (((gt l i).l).take ((putAll8 m ((gt l i).l)).2.1))).1).q), .int .i64 (((putAll8 m (((gt l i).l).take ((putAll8 m ((gt l i).l)).2.1))).1).sz), .map (some mb51)] 69 (0, 0)), (mb51, mapO keyV en8V (((putAll8 m (((gt l i).l).take ((putAll8 m ((gt l i).l)).2.1))).1).l) (((putAll8 m (((gt l i).l).take ((putAll8 m ((gt l i).l)).2.1))).1).c))] (qm rfl (qe rfl (qe rfl (qa rfl (qa rfl (TE_nil (sq (sq (plG [9] ((s38, .cells #[.int .i64 (((putAll8 m (((gt l i).l).take ((putAll8 m ((gt l i).l)).2.1))).1).q), .int .i64 (((putAll8 m (((gt l i).l).take ((putAll8 m ((gt l i).l)).2.1))).1).sz), .map (some mb51)] 69 (0, 0)) :: (mb51, mapO keyV en8V (((putAll8 m (((gt l i).l).take ((putAll8 m ((gt l i).l)).2.1))).1).l) (((putAll8 m (((gt l i).l).take ((putAll8 m ((gt l i).l)).2.1))).1).c)) :: (s5, .cells #[.int .i64 (((putAll8 m ((gt l i).l)).1).q), .int .i64 (((putAll8 m ((gt l i).l)).1).sz), .map (some mb45)] 69 (0, 0)) :: (mb45, mapO keyV en8V (((putAll8 m ((gt l i).l)).1).l) (((putAll8 m ((gt l i).l)).1).c)) :: (0, .cells (wfV 8 (s8f shaB)).cells 151 (0, 0)) :: (1, .cells (wfV 64 (gtf shaK)).cells 286 (0, 0)) :: ((bldMx 35 idC ts28 st30) ++ HX)) ?_)))))))))
     refine qm rfl (qq rfl (RD.lss rfl rfl) (qm rfl (TE_dec (fun hf54 => ?_) (fun hf54 => ?_))))
     ·refine qs rfl (qs rfl (qs rfl (qs rfl (qs rfl (qs rfl (qs rfl (qs rfl (qT rfl (qm rfl ?_)))))))))
      refine qs rfl (qs rfl (qT rfl (qm rfl (qs rfl (qs rfl (qs rfl (qT rfl (qm rfl (qs rfl ?_)))))))))
      refine qs rfl (qs rfl (qs rfl (qs rfl (qT rfl (qm rfl (qs rfl (qs rfl (qs rfl (qs rfl ?_)))))))))
      exact qT rfl (n0 (pn_condT rfl (sq (pl (qa rfl (n0 (rt (pn_doneS [] rfl rfl ⟨(by exfalso; first | (have h9 := whole_err hc48; omega) | (have h9 := whole_k hc48; simp [h9.1, h9.2] at hf54; done) | (have h9 := whole_k hc48; omega) | (have h9 := whole_sz hc48; omega)), rfl⟩ (fun _ => Nat.zero_le _) (fun _ he => nomatch he)))))))))
     ·refine qg rfl (qg rfl (qg rfl (TE_gq rfl rfl rfl rfl (RD.idxR (i := i) (o := (i * 2 + 0)) runUnderlying22 sizeOf52 rfl hbl rfl rfl (by omega) (by rfl)) rfl (TE_gq rfl rfl rfl rfl (RD.fldR (i := i) (o' := (i * 2 + 1)) runUnderlying52 rfl (by rfl) sizeOf24 rfl hbl (by omega)) rfl (ql rfl (RD.ldR (i := i) (j := 1) (u := (OpM.v (gt l i))) isAgg24 rfl hbl (gt_some (by omega)) (by rfl) rfl sb) (TE_gq rfl rfl rfl rfl (RD.lenX runUnderlying24 rfl (hbkl (gt l i) (gt_mem (by omega))).1) rfl (TE_gq rfl rfl rfl rfl (RD.geq rfl rfl) rfl (qF rfl (qm rfl ?_)))))))))
      refine TE_dec (fun hf55 => ?_) (fun hf55 => ?_)
      ·refine qs rfl (qs rfl (qT rfl (qm rfl (qs rfl (qs rfl (qs rfl (qT rfl (qm rfl (qs rfl ?_)))))))))
       refine qs rfl (qs rfl (qs rfl (qs rfl (qT rfl (qm rfl (qs rfl (qs rfl (qs rfl (qs rfl ?_)))))))))
       exact qT rfl (n0 (pn_condT rfl (sq (pl (qa rfl (n0 (rt (pn_doneS [] rfl rfl ⟨(by exfalso; first | (have h9 := whole_err hc48; omega) | (have h9 := whole_k hc48; simp [h9.1, h9.2] at hf55; done) | (have h9 := whole_k hc48; omega) | (have h9 := whole_sz hc48; omega)), rfl⟩ (fun _ => Nat.zero_le _) (fun _ he => nomatch he)))))))))
      ·refine qg rfl (TE_gq rfl rfl rfl rfl (RD.neq rfl rfl) rfl (qF rfl (qm rfl (TE_ndec (fun hf56 => ?_) (fun hf56 => ?_)))))
       ·refine qs rfl (qs rfl (qs rfl (qT rfl (qm rfl (qs rfl (qs rfl (qs rfl (qs rfl (qs rfl ?_)))))))))
        refine qT rfl (qm rfl (qs rfl (qs rfl (qs rfl (qs rfl (qT rfl (n0 (pn_condT rfl (sq ?_)))))))))
        exact pl (qa rfl (n0 (rt (pn_doneS [] rfl rfl ⟨(by exfalso; first | (have h9 := whole_err hc48; omega) | (have h9 := whole_k hc48; simp [h9.1, h9.2] at hf56; done) | (have h9 := whole_k hc48; omega) | (have h9 := whole_sz hc48; omega)), rfl⟩ (fun _ => Nat.zero_le _) (fun _ he => nomatch he)))))
       ·refine qg rfl (qg rfl (TE_gq rfl rfl rfl rfl (RD.neq rfl rfl) rfl (qF rfl (qm rfl (TE_ndec (fun hf57 => ?_) (fun hf57 => ?_))))))
        ·refine qs rfl (qs rfl (qs rfl (qs rfl (qs rfl (qT rfl (qm rfl (qs rfl (qs rfl (qs rfl ?_)))))))))
         exact qs rfl (qT rfl (n0 (pn_condT rfl (sq (pl (qa rfl (n0 (rt (pn_doneS [] rfl rfl ⟨(by exfalso; first | (have h9 := whole_err hc48; omega) | (have h9 := whole_k hc48; simp [h9.1, h9.2] at hf57; done) | (have h9 := whole_k hc48; omega) | (have h9 := whole_sz hc48; omega)), rfl⟩ (fun _ => Nat.zero_le _) (fun _ he => nomatch he))))))))))
        ·refine qg rfl (cG rfl call24 (fun w hw => c_stIDs s5 mb45 ((putAll8 m ((gt l i).l)).1) w hst44 hw.s) ?_)
         rintro v64 H65 ⟨ts58, st60, hset59, hbo61, rfl, rfl⟩ hX62
         have hRD63 := hbo61.rdx (u := 35) idC_len
         refine tsp ((s38, .cells #[.int .i64 (((putAll8 m (((gt l i).l).take ((putAll8 m ((gt l i).l)).2.1))).1).q), .int .i64 (((putAll8 m (((gt l i).l).take ((putAll8 m ((gt l i).l)).2.1))).1).sz), .map (some mb51)] 69 (0, 0)) :: (mb51, mapO keyV en8V (((putAll8 m (((gt l i).l).take ((putAll8 m ((gt l i).l)).2.1))).1).l) (((putAll8 m (((gt l i).l).take ((putAll8 m ((gt l i).l)).2.1))).1).c)) :: (s5, .cells #[.int .i64 (((putAll8 m ((gt l i).l)).1).q), .int .i64 (((putAll8 m ((gt l i).l)).1).sz), .map (some mb45)] 69 (0, 0)) :: (mb45, mapO keyV en8V (((putAll8 m ((gt l i).l)).1).l) (((putAll8 m ((gt l i).l)).1).c)) :: (0, .cells (wfV 8 (s8f shaB)).cells 151 (0, 0)) :: (1, .cells (wfV 64 (gtf shaK)).cells 286 (0, 0)) :: ((bldMx 35 (idC) ts58 st60) ++ ((bldMx 35 (idC) ts28 st30) ++ HX))) (qg rfl (cG rfl call23 (fun w hw => c_same3 (bldVx ts58 st60) ts58 (bldVx ts28 st30) ts28 ((bldMx 35 idC ts58 st60) ++ (bldMx 35 idC ts28 st30)) w hRD63.s (by have h8 := ids_len hst44 hset59; have h9 := (hst44).n; omega) hRD33.s (by have h8 := ids_len hsm hset29; have h9 := (hsm).n; omega) hw.s) ?_))
         rintro v66 H67 ⟨rfl, rfl⟩ -
         refine TE_gq rfl rfl rfl rfl (RD.not rfl) rfl (qF rfl (qm rfl (TE_bool (fun hf68 => ?_) (fun hf68 => ?_))))
         ·refine qs rfl (qs rfl (qs rfl (qs rfl (qT rfl (n0 (pn_condT rfl (sq (pl (qa rfl ?_)))))))))
          exact n0 (rt (pn_doneS [] rfl rfl ⟨(by exfalso; first | (have h9 := whole_err hc48; omega) | (have h9 := whole_k hc48; simp [h9.1, h9.2] at hf68; done) | (have h9 := whole_k hc48; omega) | (have h9 := whole_sz hc48; omega) | (rw [whole_same hc48 hset29 hset59] at hf68; cases hf68)), rfl⟩ (fun _ => Nat.zero_le _) (fun _ he => nomatch he)))
         ·refine qg rfl (cG rfl call25 (fun w hw => c_stSize s5 mb45 ((putAll8 m ((gt l i).l)).1) w hst44 hw.s) ?_)
          rintro v69 H70 ⟨rfl, rfl⟩ -
          refine qg rfl (TE_gq rfl rfl rfl rfl (RD.neq rfl rfl) rfl (qF rfl (n0 (pn_condN rfl (fun hc71 => ?_) (fun hc71 => ?_)))))
          ·exact sq (pl (qa rfl (n0 (rt (pn_doneS [] rfl rfl ⟨(by exfalso; first | (have h9 := whole_err hc48; omega) | (have h9 := whole_k hc48; simp [h9.1, h9.2] at hc71; done) | (have h9 := whole_k hc48; omega) | (have h9 := whole_sz hc48; omega) | (rw [whole_same hc48 hset29 hset59] at hc71; cases hc71)), rfl⟩ (fun _ => Nat.zero_le _) (fun _ he => nomatch he))))))
          ·exact sk (xt (pl (qq rfl (RD.addI rfl rfl (by omega) (by omega)) (qm rfl (n0 (agS ((i + 1), mb45, (putAll8 m ((gt l i).l)).1) ⟨(by omega), hst44, (hX43 _ (List.mem_cons_of_mem _ List.mem_cons_self)), (Nat.le_trans putAll_len (by omega))⟩ (by dsimp only; omega) ⟨rfl, rfl, rfl, rfl, rfl, trivial⟩))))))
    ·refine sk (sq (pn_plain [6, 11, 13, 21] rfl (qm rfl (qm rfl (qm rfl (qq rfl (RD.idxR (i := i) (o := (i * 2 + 0)) runUnderlying22 sizeOf52 rfl hbl rfl rfl (by omega) (by rfl)) (qq rfl (RD.fldR (i := i) (o' := (i * 2 + 1)) runUnderlying52 rfl (by rfl) sizeOf24 rfl hbl (by omega)) (ql rfl (RD.ldR (i := i) (j := 1) (u := (OpM.v (gt l i))) isAgg24 rfl hbl (gt_some (by omega)) (by rfl) rfl sb) (qq rfl (RD.lenX runUnderlying24 rfl (hbkl (gt l i) (gt_mem (by omega))).1) ?_)))))))))
     refine qq rfl (RD.neq rfl rfl) (qm rfl (TE_ndec (fun hf72 => ?_) (fun hf72 => ?_)))
     ·refine qs rfl (qs rfl (qs rfl (qs rfl (qs rfl (qs rfl (qT rfl (qm rfl (qs rfl (qs rfl ?_)))))))))
      refine qs rfl (qs rfl (qs rfl (qs rfl (qT rfl (n0 (pn_condT rfl (sq (pl (qa rfl ?_)))))))))
      exact n0 (rt (pn_doneS [] rfl rfl ⟨(by exfalso; first | (have h9 := whole_ok hc48; omega)), rfl⟩ (fun _ => Nat.zero_le _) (fun _ he => nomatch he)))
     ·refine qg rfl (cG rfl call24 (fun w hw => c_stIDs s5 mb45 ((putAll8 m ((gt l i).l)).1) w hst44 hw.s) ?_)
      rintro v79 H80 ⟨ts73, st75, hset74, hbo76, rfl, rfl⟩ hX77
      have hRD78 := hbo76.rdx (u := 35) idC_len
      refine tsp ((s5, .cells #[.int .i64 (((putAll8 m ((gt l i).l)).1).q), .int .i64 (((putAll8 m ((gt l i).l)).1).sz), .map (some mb45)] 69 (0, 0)) :: (mb45, mapO keyV en8V (((putAll8 m ((gt l i).l)).1).l) (((putAll8 m ((gt l i).l)).1).c)) :: (s38, .cells #[.int .i64 m.q, .int .i64 m.sz, .map (some mb39)] 69 (0, 0)) :: (mb39, mapO keyV en8V m.l m.c) :: (0, .cells (wfV 8 (s8f shaB)).cells 151 (0, 0)) :: (1, .cells (wfV 64 (gtf shaK)).cells 286 (0, 0)) :: ((bldMx 35 (idC) ts73 st75) ++ ((bldMx 35 (idC) ts28 st30) ++ HX))) (TE_gq rfl rfl rfl rfl (RD.lenX runUnderlying41 rfl hRD78) rfl (qg rfl (TE_gq rfl rfl rfl rfl (RD.lenX runUnderlying41 rfl hRD33) rfl (TE_gq rfl rfl rfl rfl (RD.lss rfl rfl) rfl (qF rfl (qm rfl (TE_dec (fun hf81 => ?_) (fun hf81 => ?_))))))))
      ·refine qs rfl (qs rfl (qs rfl (qs rfl (qs rfl (qs rfl (qT rfl (n0 (pn_condT rfl (sq ?_)))))))))
       exact pl (qa rfl (n0 (rt (pn_doneS [] rfl rfl ⟨(by exfalso; first | (have h9 := whole_ok hc48; omega) | (have h9 := ids_len_le hsm (whole_ok hc48).2 hset29 hset74; omega) | (rw [whole_less hc48 hset29 hset74] at hf81; simp at hf81; done)), rfl⟩ (fun _ => Nat.zero_le _) (fun _ he => nomatch he)))))
      ·refine qg rfl (qg rfl (cG rfl call24 (fun w hw => c_stIDs s5 mb45 ((putAll8 m ((gt l i).l)).1) w hst44 hw.s) ?_))
       rintro v88 H89 ⟨ts82, st84, hset83, hbo85, rfl, rfl⟩ hX86
       have hRD87 := hbo85.rdx (u := 35) idC_len
       refine tsp ((s5, .cells #[.int .i64 (((putAll8 m ((gt l i).l)).1).q), .int .i64 (((putAll8 m ((gt l i).l)).1).sz), .map (some mb45)] 69 (0, 0)) :: (mb45, mapO keyV en8V (((putAll8 m ((gt l i).l)).1).l) (((putAll8 m ((gt l i).l)).1).c)) :: (s38, .cells #[.int .i64 m.q, .int .i64 m.sz, .map (some mb39)] 69 (0, 0)) :: (mb39, mapO keyV en8V m.l m.c) :: (0, .cells (wfV 8 (s8f shaB)).cells 151 (0, 0)) :: (1, .cells (wfV 64 (gtf shaK)).cells 286 (0, 0)) :: ((bldMx 35 (idC) ts82 st84) ++ ((bldMx 35 (idC) ts73 st75) ++ ((bldMx 35 (idC) ts28 st30) ++ HX)))) (cG rfl call47 (fun w hw => c_hashLess (bldVx ts28 st30) ts28 (bldVx ts82 st84) ts82 ((bldMx 35 idC ts82 st84) ++ (bldMx 35 idC ts28 st30)) w hRD33.s (by have h8 := ids_len hsm hset29; have h9 := (hsm).n; omega) (set_okI hset29) hRD87.s (by have h8 := ids_len hst44 hset83; have h9 := (hst44).n; omega) (set_okI hset83) hset83.1 hw.s) ?_)
       rintro v94 H95 ⟨st90, hbo91, rfl, rfl⟩ hX92
       have hRD93 := hbo91.rdx (u := 35) idC_len
       refine tsp ((s5, .cells #[.int .i64 (((putAll8 m ((gt l i).l)).1).q), .int .i64 (((putAll8 m ((gt l i).l)).1).sz), .map (some mb45)] 69 (0, 0)) :: (mb45, mapO keyV en8V (((putAll8 m ((gt l i).l)).1).l) (((putAll8 m ((gt l i).l)).1).c)) :: (s38, .cells #[.int .i64 m.q, .int .i64 m.sz, .map (some mb39)] 69 (0, 0)) :: (mb39, mapO keyV en8V m.l m.c) :: (0, .cells (wfV 8 (s8f shaB)).cells 151 (0, 0)) :: (1, .cells (wfV 64 (gtf shaK)).cells 286 (0, 0)) :: ((bldMx 35 (idC) (lessI ts28 ts82) st90) ++ ((bldMx 35 (idC) ts82 st84) ++ ((bldMx 35 (idC) ts73 st75) ++ ((bldMx 35 (idC) ts28 st30) ++ HX))))) (TE_gq rfl rfl rfl rfl (RD.lenX runUnderlying41 rfl hRD93) rfl (TE_gq rfl rfl rfl rfl (RD.gtr rfl rfl) rfl (qF rfl (n0 (pn_condD rfl (fun hc96 => ?_) (fun hc96 => ?_))))))
       ·exact sq (pl (qa rfl (n0 (rt (pn_doneS [] rfl rfl ⟨(by exfalso; first | (have h9 := whole_ok hc48; omega) | (have h9 := ids_len_le hsm (whole_ok hc48).2 hset29 hset74; omega) | (have h9 := ids_len_le hsm (whole_ok hc48).2 hset29 hset83; omega) | (rw [whole_less hc48 hset29 hset74] at hc96; simp at hc96; done) | (rw [whole_less hc48 hset29 hset83] at hc96; simp at hc96; done)), rfl⟩ (fun _ => Nat.zero_le _) (fun _ he => nomatch he))))))
       ·exact sk (pl (qq rfl (RD.addI rfl rfl (by omega) (by omega)) (qm rfl (n0 (agS ((i + 1), mb45, (putAll8 m ((gt l i).l)).1) ⟨(by omega), hst44, (hX43 _ (List.mem_cons_of_mem _ List.mem_cons_self)), (Nat.le_trans putAll_len (by omega))⟩ (by dsimp only; omega) ⟨rfl, rfl, rfl, rfl, rfl, trivial⟩)))))
   ·exact xt (sq (pl (qm rfl (qa rfl (n0 (rt (pn_doneS [] rfl rfl ⟨rfl, rfl⟩ (fun _ => Nat.zero_le _) (fun _ he => nomatch he))))))))
end Go.Proofs.YtcmnmigcalibdaaGreatDoor

namespace Go.Proofs.YtcmnmigcalibdaaGreatDoor
open Go Go.Mv Go.ChangeShapes
set_option maxRecDepth 100000
theorem cellsO_bs : Tryz.prog.cellsOf 32 = 1 := by kernel_rfl
theorem cellsO_op : Tryz.prog.cellsOf 52 = 2 := by kernel_rfl
section
variable {H : Type} {enc : TypeId × Value → H} {W : World}
def rawC (r : Int × Value) : List Value := [.int .i64 r.1, r.2]
def rawOk {H : Type} (enc : TypeId × Value → H) (W : World) (r : Int × Value) : Prop := ∃ n y, DataW.trod enc Tryz.prog W 0 (fun _ => true) true n 24 [r.2] = some y
theorem open_rawOp {n : Nat} {cs : List Value} {x : DataW H × List MemPlace} (h : DataW.trod enc Tryz.prog W 0 (fun _ => true) true n 52 cs = some x) : ∃ r, cs = rawC r ∧ rawOk enc W r := by
  obtain ⟨hl, hf⟩ := trod_field Tryz.underlying52 h
  rw [cellsO_op] at hl
  obtain ⟨m0, y0, h0⟩ := hf 0 _ rfl
  obtain ⟨m1, y1, h1⟩ := hf 1 _ rfl
  have h0 : DataW.trod enc Tryz.prog W 0 (fun _ => true) true m0 3 ((cs.drop 0).take (Tryz.prog.cellsOf 3)) = some y0 := h0
  have h1 : DataW.trod enc Tryz.prog W 0 (fun _ => true) true m1 24 ((cs.drop 1).take (Tryz.prog.cellsOf 24)) = some y1 := h1
  obtain ⟨k, hk, _, _⟩ := DataW.trod_int Tryz.underlying3 h0
  obtain ⟨v, hv⟩ := trod_cell Tryz.underlying24 h1
  refine ⟨(k, v), ?_, m1, y1, by rw [← hv]; exact h1⟩
  have e0 := at0 hk
  have e1 := at0 hv
  match cs, hl with
  | [a, b], _ =>
    simp only [List.getElem?_cons_zero, List.getElem?_cons_succ, Option.some.injEq] at e0 e1
    rw [e0, e1]; rfl
theorem open_eachOp : ∀ (rs : List (Int × Value)), (∀ r ∈ rs, rawOk enc W r) → ∀ HZ, Hp HZ W → ∃ HA, ∃ l : List OpM, Hp (HA ++ HZ) W ∧ l.map (fun o => (o.k, o.v)) = rs ∧ OpsOk (HA ++ HZ) l ∧ ∀ o ∈ l, o.l.length ≤ 9223372036854775807
  | [], _, HZ, hH => ⟨[], [], hH, rfl, (fun x hx => nomatch hx), (fun x hx => nomatch hx)⟩
  | r :: rs, hr, HZ, hH => by
    obtain ⟨HA, l, hA, hl, hok, hle⟩ := open_eachOp rs (fun x hx => hr x (List.mem_cons_of_mem _ hx)) HZ hH
    obtain ⟨n, y, hn⟩ := hr r List.mem_cons_self
    obtain ⟨HB, bs, hB, hb, hbs, hbl⟩ := open_bss Tryz.underlying24 Tryz.underlying32 cellsO_bs cellsO_u8 (fun n cs x h => open_byteT h) hn (HA ++ HZ) hA
    obtain ⟨a, c, hv⟩ := hb.shape
    have e : (OpM.v ⟨r.1, a, c, bs⟩) = r.2 := hv.symm
    refine ⟨HB ++ HA, ⟨r.1, a, c, bs⟩ :: l, by rw [List.append_assoc]; exact hB, by rw [List.map_cons, hl, e], fun x hx => ?_, fun x hx => ?_⟩
    · rw [List.append_assoc]
      rcases List.mem_cons.1 hx with rfl | hx
      · exact ⟨by rw [e]; exact hb, hbs⟩
      · exact ⟨(hok x hx).1.mono Hp_app, (hok x hx).2.mono Hp_app⟩
    · rcases List.mem_cons.1 hx with rfl | hx
      · exact hbl
      · exact hle x hx
/-- Calls that come in. -/
theorem open_ops {r : Reach} {b0 : Nat} {v : Value} {d : DataW H} {p : List MemPlace} (hval : Value.okWide Tryz.prog W r b0 22 v) (h : DataW.Trod enc Tryz.prog W 0 (fun _ => true) true 22 v d p) (HZ : Mem) (hH : Hp HZ W) :
    ∃ HA l, Hp (HA ++ HZ) W ∧ Rdx 2 opC (HA ++ HZ) v l ∧ OpsOk (HA ++ HZ) l ∧ (l.length ≤ 9223372036854775807 ∧ ∀ o ∈ l, o.l.length ≤ 9223372036854775807) := by
  obtain ⟨a0, l0, c0, rfl⟩ := WideShapes.okWide_slice Tryz.underlying22 hval
  obtain ⟨n, hn⟩ := h
  obtain ⟨HA, rs, hA, hrs, hok, hlen⟩ := open_slT (ec := rawC) (ok := rawOk enc W) Tryz.underlying22 cellsO_op (by decide) (fun _ => rfl) (fun n cs x h => open_rawOp h) (show DataW.trod enc Tryz.prog W 0 (fun _ => true) true n 22 [.slice a0 l0 c0] = some (d, p) from hn) HZ hH
  obtain ⟨HB, l, hB, hl, hops, hle⟩ := open_eachOp rs hok (HA ++ HZ) hA
  subst hl
  refine ⟨HB ++ HA, l, by rw [List.append_assoc]; exact hB, ?_, by rw [List.append_assoc]; exact hops, by simpa using hlen, hle⟩
  rw [List.append_assoc]
  have h9 := hrs.mono (H' := HB ++ (HA ++ HZ)) Hp_app
  rcases h9 with ⟨hn, he⟩ | ⟨b, off, cap, hv, hc, hcell⟩
  · exact .inl ⟨hn, by simpa using he⟩
  · refine .inr ⟨b, off, cap, by rw [hv]; simp, by simpa using hc, fun w hw i x hi j u hu => ?_⟩
    refine hcell w hw i (x.k, x.v) (by rw [List.getElem?_map, hi]; rfl) j u ?_
    simpa [opC, rawC, OpM.v] using hu
end
end Go.Proofs.YtcmnmigcalibdaaGreatDoor

namespace Go.Proofs.YtcmnmigcalibdaaGreatDoor
open Go Go.Mv
set_option maxRecDepth 100000
def beginZ : List Int := S8.l shaB |>.map fun a => (a.toNat : Int)
def factorsZ : List Int := shaK.map fun a => (a.toNat : Int)
theorem begin_is : (Rows.laid_marshes_hash_begin : DataW Unit) = Go.Lib.tabData .u32 beginZ := by kernel_rfl
theorem factors_is : (Rows.laid_marshes_hash_factors : DataW Unit) = Go.Lib.tabData .u32 factorsZ := by kernel_rfl
theorem begin_cells : (beginZ.map fun z => Value.int .u32 z) = (wfV 8 (s8f shaB)).cells.toList := by kernel_rfl
theorem factors_cells : (factorsZ.map fun z => Value.int .u32 z) = (wfV 64 (gtf shaK)).cells.toList := by kernel_rfl
/-- The listed tables, as they lie. -/
theorem laid_hash {W : World} (hsh : W.ShapedOpen Tryz.prog) (hL : laidMetH Tryz.prog [("marshes/hash.begin", Rows.laid_marshes_hash_begin), ("marshes/hash.factors", Rows.laid_marshes_hash_factors)] W) :
    Hp [(0, .cells (wfV 8 (s8f shaB)).cells 151 (0, 0)), (1, .cells (wfV 64 (gtf shaK)).cells 286 (0, 0))] W := by
  have hL : laidMet Tryz.prog [("marshes/hash.begin", Rows.laid_marshes_hash_begin), ("marshes/hash.factors", Rows.laid_marshes_hash_factors)] W := hL
  have hL2 : laidMet Tryz.prog [("marshes/hash.factors", Rows.laid_marshes_hash_factors)] W := laidMet.filter (fun x => x.1 == "marshes/hash.factors") hL
  rw [begin_is] at hL
  rw [factors_is] at hL2
  have v1 : W.var? Tryz.prog "marshes/hash.begin" = some (beginZ.map fun z => Value.int .u32 z).toArray := Go.Lib.tabIs_of_head (g := 0) (t := 151) (e := 73) (n := 8) (by kernel_rfl) (by kernel_rfl) Tryz.underlying151 Tryz.underlying73 (by kernel_rfl) (by kernel_rfl) hL
  have v2 : W.var? Tryz.prog "marshes/hash.factors" = some (factorsZ.map fun z => Value.int .u32 z).toArray := Go.Lib.tabIs_of_head (g := 1) (t := 286) (e := 73) (n := 64) (by kernel_rfl) (by kernel_rfl) Tryz.underlying286 Tryz.underlying73 (by kernel_rfl) (by kernel_rfl) hL2
  obtain ⟨c1, h1, _⟩ := hsh.1 0 (List.replicate 8 (Value.int .u32 0)).toArray 151 (of_decide_eq_true (by kernel_rfl)) (by kernel_rfl)
  obtain ⟨c2, h2, _⟩ := hsh.1 1 (List.replicate 64 (Value.int .u32 0)).toArray 286 (of_decide_eq_true (by kernel_rfl)) (by kernel_rfl)
  have g1 : Tryz.prog.globalNamed "marshes/hash.begin" = some 0 := by kernel_rfl
  have g2 : Tryz.prog.globalNamed "marshes/hash.factors" = some 1 := by kernel_rfl
  have e1 : c1 = (wfV 8 (s8f shaB)).cells := by
    unfold World.var? at v1
    rw [g1] at v1
    simp only [Option.bind_some, h1] at v1
    rw [Option.some.inj v1, begin_cells]
  have e2 : c2 = (wfV 64 (gtf shaK)).cells := by
    unfold World.var? at v2
    rw [g2] at v2
    simp only [Option.bind_some, h2] at v2
    rw [Option.some.inj v2, factors_cells]
  subst e1; subst e2
  refine ⟨fun e he => ?_, by simp⟩
  simp only [List.mem_cons, List.not_mem_nil, or_false] at he
  rcases he with rfl | rfl
  · exact h1
  · exact h2
end Go.Proofs.YtcmnmigcalibdaaGreatDoor

namespace Go.Proofs.YtcmnmigcalibdaaGreatDoor.StWhole
open Go
set_option maxRecDepth 100000
theorem kinPlace : (Rows.storeWholeRow.inPlace == Tryz.pinned.checked.prog.inPlace 7) = true := by kernel_rfl
theorem kunfollowed : (Rows.storeWholeRow.unfollowed == Tryz.pinned.checked.prog.unfollowed 7) = true := by kernel_rfl
end Go.Proofs.YtcmnmigcalibdaaGreatDoor.StWhole

namespace Go.Proofs.YtcmnmigcalibdaaGreatDoor.StWhole
open Go
set_option maxRecDepth 100000
theorem krecurses : (Rows.storeWholeRow.recurses == Tryz.pinned.checked.prog.recurses 7) = true := by kernel_rfl
theorem knamed : (Rows.storeWholeRow.named == Tryz.pinned.checked.prog.varsNamed 7) = true := by kernel_rfl
end Go.Proofs.YtcmnmigcalibdaaGreatDoor.StWhole

namespace Go.Proofs.YtcmnmigcalibdaaGreatDoor.StWhole
open Go
set_option maxRecDepth 100000
theorem klifts : (Rows.storeWholeRow.lifted == Tryz.pinned.checked.prog.liftsFinal) = true := by kernel_rfl
end Go.Proofs.YtcmnmigcalibdaaGreatDoor.StWhole

namespace Go.Proofs.YtcmnmigcalibdaaGreatDoor.StWhole
open Go
set_option maxRecDepth 100000
theorem kmake : (Tryz.pinned.checked.prog.make == some Rows.storeWholeRow.make) = true := by kernel_rfl
end Go.Proofs.YtcmnmigcalibdaaGreatDoor.StWhole

namespace Go.Proofs.YtcmnmigcalibdaaGreatDoor.StWhole
open Go
set_option maxRecDepth 100000
theorem kenter : Tryz.pinned.checked.prog.mayEnter = true := by kernel_rfl
theorem kheard : Tryz.pinned.checked.prog.stopsHeard = true := by kernel_rfl
end Go.Proofs.YtcmnmigcalibdaaGreatDoor.StWhole

namespace Go.Proofs.YtcmnmigcalibdaaGreatDoor.StWhole
open Go
set_option maxRecDepth 100000
theorem kgoes : false = Rows.storeWholeRow.goesBy Tryz.pinned.checked.prog := by kernel_rfl
end Go.Proofs.YtcmnmigcalibdaaGreatDoor.StWhole
