import Derived.Test.YtmjmaloapafnlaaGreatDoorGay
namespace Go.Proofs.YtmjmaloapafnlaaGreatDoor
open Tryz
open Go Go.Mv
set_option maxRecDepth 8000
theorem textsB_take {l : List OpM} (h : greatOps l = false) (i : Nat) : (textsB (l.take i)).length ≤ 320 := by
  refine Nat.le_trans ?_ (textsB_le h)
  have h1 : textsB l = textsB (l.take i) ++ textsB (l.drop i) := by
    rw [textsB, textsB, textsB, ← List.flatMap_append, List.take_append_drop]
  rw [h1, List.length_append]; omega
def clashI (l : List BSl) : Int := if clashB l then 1 else 0
theorem clashI_0 {l : List BSl} (h : ¬ 0 < clashI l) : clashB l = false := by
  cases hc : clashB l with
  | false => rfl
  | true => exact absurd (by rw [clashI, hc]; decide) h
theorem clashI_T {l : List BSl} {i k : Nat} (hi : i < l.length) (hk : k < i) (h : clashAt l i k = true) : (1 : Int) = clashI l := by
  rw [clashI, clash_T hi hk h]; rfl
theorem clashI_F {l : List BSl} (h : ∀ i k, i < l.length → k < i → clashAt l i k = false) : (0 : Int) = clashI l := by
  rw [clashI, clash_F h]; rfl
theorem clash_atE {l : List BSl} {i k : Nat} : clashAt l i k = ((!decide ((⟨(gt l i).b.toArray⟩ : ByteArray) = ⟨(gt l k).b.toArray⟩)) && sameN 32 (shaF (gt l i).b) (shaF (gt l k).b)) := by
  rw [clashAt]; congr 2; exact decide_eq_decide.2 ba_eq.symm
/-- Putting one after the other. -/
def puts8 (m : St8) (bs : List (List UInt8)) : St8 := bs.foldl (fun m b => (put8 m b).1) m
theorem puts8_next {m : St8} {l : List BSl} {i : Nat} (hi : i < l.length) : puts8 m ((l.take (i + 1)).map (·.b)) = (put8 (puts8 m ((l.take i).map (·.b))) (gt l i).b).1 := by
  rw [take_succ_of (gt_some hi), List.map_append, puts8, List.foldl_append]; rfl
theorem put8_len {m : St8} {b : List UInt8} : (put8 m b).1.l.length ≤ m.l.length + 1 := by
  unfold put8
  repeat' split
  all_goals first | exact Nat.le_succ _ | skip
  show (mput (k8 b) (x8 b) m.l m.c).1.length ≤ _
  rw [mput_len]; split <;> omega
theorem put8_mem {m : St8} {b : List UInt8} {e : ME Key En8} (h : e ∈ (put8 m b).1.l) : (e.v = x8 b ∧ e.k = k8 b) ∨ e ∈ m.l := by
  unfold put8 at h
  split at h
  · exact .inr h
  split at h
  · split at h <;> exact .inr h
  split at h
  · exact .inr h
  · exact mput_mem h
/-- What is there was put. -/
theorem puts8_mem : ∀ {bs : List (List UInt8)} {m : St8} {e : ME Key En8}, e ∈ (puts8 m bs).l → (∃ b ∈ bs, e.v = x8 b ∧ e.k = k8 b) ∨ e ∈ m.l
  | [], _, _, h => .inr h
  | b :: bs, m, e, h => by
    rcases puts8_mem (bs := bs) (m := (put8 m b).1) h with ⟨c, hc, h1⟩ | h1
    · exact .inl ⟨c, List.mem_cons_of_mem _ hc, h1⟩
    · rcases put8_mem h1 with h2 | h2
      · exact .inl ⟨b, List.mem_cons_self, h2⟩
      · exact .inr h2
theorem same_en8_self (x : En8) : same_en8 x x = true := by simp [same_en8]
/-- What is there by a text's id is that text. -/
theorem has8_same {T : List BSl} {q : Int} {i : Nat} (hc : clashB T = false) (hi : i < T.length) (hh : has8 (puts8 ⟨q, 0, [], 0⟩ ((T.take i).map (·.b))) (k8 (gt T i).b) = true) : same_en8 (get8 (puts8 ⟨q, 0, [], 0⟩ ((T.take i).map (·.b))) (k8 (gt T i).b)) (x8 (gt T i).b) = true := by
  unfold has8 at hh
  unfold get8
  cases hm : mget (k8 (gt T i).b) (puts8 ⟨q, 0, [], 0⟩ ((T.take i).map (·.b))).l with
  | none => rw [hm] at hh; cases hh
  | some v =>
    obtain ⟨e, he, hk, rfl⟩ := mget_mem hm
    rcases puts8_mem he with ⟨b, hb, h1, h2⟩ | h1
    · obtain ⟨y, hy, rfl⟩ := List.mem_map.1 hb
      have : y.b = (gt T i).b := no_clash hc (List.mem_of_mem_take hy) (gt_mem hi) (h2.symm.trans hk)
      rw [Option.getD_some, h1, this]; exact same_en8_self _
    · cases h1
section
variable {m : St8} {b : List UInt8}
theorem room_0 (h : kindM b = 0) : (put8 m b).2.2 = 70 ∧ (put8 m b).1.q - (put8 m b).1.sz = m.q - m.sz ∧ (put8 m b).1.l.length = m.l.length := by
  rw [put8_0 h]; exact ⟨rfl, rfl, rfl⟩
theorem room_is (h : ¬ kindM b = 0) (hh : has8 m (k8 b) = true) (hs : same_en8 (get8 m (k8 b)) (x8 b) = true) : (put8 m b).2.2 = 0 ∧ (put8 m b).1.q - (put8 m b).1.sz = m.q - m.sz ∧ (put8 m b).1.l.length = m.l.length := by
  rw [put8_is h hh hs]; exact ⟨rfl, rfl, rfl⟩
theorem room_quota (h : ¬ kindM b = 0) (hh : has8 m (k8 b) = false) (hq : m.q - m.sz < b.length) : (put8 m b).2.2 = 81 ∧ (put8 m b).1.q - (put8 m b).1.sz = m.q - m.sz ∧ (put8 m b).1.l.length = m.l.length := by
  rw [put8_quota h hh hq]; exact ⟨rfl, rfl, rfl⟩
theorem room_new (h : ¬ kindM b = 0) (hh : has8 m (k8 b) = false) (hq : ¬ m.q - m.sz < b.length) : (put8 m b).2.2 = 0 ∧ (put8 m b).1.q - (put8 m b).1.sz = m.q - m.sz - b.length ∧ (put8 m b).1.l.length = m.l.length + 1 := by
  rw [put8_new h hh hq]
  refine ⟨rfl, by show m.q - (m.sz + b.length) = _; omega, ?_⟩
  show (mput (k8 b) (x8 b) m.l m.c).1.length = _
  rw [mput_len, if_neg (by rw [has8] at hh; simp [hh])]
end
theorem c_texts8 (lv : Value) (l : List OpM) (HX : Mem) (w : World) (hbl : Rdx 2 (opC) HX lv l) (hbkl : OpsOk HX l) (hll : l.length ≤ 9223372036854775807 ∧ ∀ o ∈ l, o.l.length ≤ 9223372036854775807) (hgr : greatOps l = false) (hH : Hp HX w) : Calls Tryz.prog 19 #[lv] w (Ret w [] fun v H1 => ∃ st, BldOk 1 (bsC) (textsB l) st ∧ v = bldVx (textsB l) st ∧ H1 = bldMx 32 (bsC) (textsB l) st) := by
 have hg40 := greatOps_ok hgr
 refine fn_enter (args := [_]) func19 rfl ntmps19 rfl hH (sq (pl (qa rfl (n0 (sq (pl (qa rfl (n0 (sq ?_)))))))))
 refine sq (pn_plain [1] rfl (qm rfl (qq rfl (RD.lenX runUnderlying22 rfl hbl) (qm rfl (n0 (pn_block (lpS (σ := Nat × SnkS) (fun q => [(0, lv), (6, .int .i64 (l.length : Int)), (3, bldVx (textsB (l.take q.1)) q.2), (7, .int .i64 (q.1 : Int))]) (fun q => ((bldMx 32 (bsC) (textsB (l.take q.1)) q.2) ++ HX)) (fun q => (q.1 ≤ l.length) ∧ (BldOk 1 (bsC) (textsB (l.take q.1)) q.2) ∧ (∀ e ∈ bldMx 32 (bsC) (textsB (l.take q.1)) q.2, w.heap.size ≤ e.1 ∨ e.1 ∈ [])) (fun q => l.length - q.1) (0, none) ⟨(by omega), BldOk.nil, (by intro e he; cases he)⟩ ⟨rfl, rfl, rfl, rfl, trivial⟩ ?_)))))))
 rintro ⟨i, st⟩ ⟨hi, hbost, hXst⟩
 dsimp only at hi hbost hXst ⊢
 have hRst := hbost.rdx (u := 32) bsC_len
 have htk := textsB_take hgr i
 refine sq (pl (qq rfl (RD.lss rfl rfl) (n0 (sq (pn_condD rfl (fun hc1 => ?_) (fun hc1 => ?_))))))
 ·refine sk (sq (pn_block (sq (pl (qm rfl (qa rfl (n0 ?_)))))))
  have ho8 := (hg40.2 _ (gt_mem (l := l) (i := i) (by omega))).1
  refine pl (qm rfl (qm rfl (qm rfl (qq rfl (RD.idxR (i := i) (o := (i * 2 + 0)) runUnderlying22 sizeOf67 rfl hbl rfl rfl (by omega) (by rfl)) (qq rfl (RD.fldR (i := i) (o' := (i * 2 + 1)) runUnderlying67 rfl (by rfl) sizeOf30 rfl hbl (by omega)) (ql rfl (RD.ldR (i := i) (j := 1) (u := (OpM.v (gt l i))) isAgg30 rfl hbl (gt_some (by omega)) (by rfl) rfl sb) (tsp ((bldMx 32 (bsC) (textsB (l.take i)) st) ++ HX) (TE_appendX (st := st) (l := (textsB (l.take i))) (ys := (gt l i).l) HX bsC_len bsC_one rfl rfl rfl rfl trivial rfl underlying30 elBs rfl rfl rfl hbost (hbkl (gt l i) (gt_mem (by omega))).1 sb (by omega) rfl hXst ?_))))))))
  intro st2 hbo3 hX4 _
  have hR6 := hbo3.rdx (u := 32) bsC_len
  refine tsp ((bldMx 32 (bsC) ((textsB (l.take i)) ++ (gt l i).l) st2) ++ HX) (qa rfl (n0 (pl (qq rfl (RD.addI rfl rfl (by omega) (by omega)) (qm rfl (n0 ?_))))))
  have he7 : ((textsB (l.take i)) ++ (gt l i).l) = (textsB (l.take (i + 1))) := (textsB_next (by omega))
  exact pn_againS ((i + 1), st2) ⟨(by omega), (by rw [← he7]; exact hbo3), (by rw [← he7]; exact hX4)⟩ (by dsimp only; omega) ⟨rfl, rfl, (congrArg (fun l => some (bldVx l st2)) he7), rfl, trivial⟩ (fun a => by (try simp only [← he7]); simp -failIfUnchanged <;> omega)
 ·refine xt (sq (plG [] (bldMx 32 (bsC) (textsB (l.take i)) st) (qm rfl (qa rfl (n0 (rt ?_))))))
  have he8 : (textsB (l.take i)) = (textsB l) := (congrArg textsB (take_all (by omega)))
  exact dS (bldMx 32 (bsC) (textsB (l.take i)) st) rfl rfl ⟨st, (by rw [← he8]; exact hbost), (by rw [← he8]; rfl), (by rw [← he8])⟩ hXst
theorem c_clash8 (lv : Value) (l : List BSl) (HX : Mem) (w : World) (hbl : Rdx 1 (bsC) HX lv l) (hbkl : BsOk HX l) (hll : l.length ≤ 1000) (hsl : ∀ x ∈ l, x.b.length ≤ 1000000) (hH : Hp HX w) : Calls Tryz.prog 18 #[lv] w (Ret w [] fun v H1 => v = .int .i64 (clashI l) ∧ H1 = []) := by
 refine fn_enter (args := [_]) func18 rfl ntmps18 rfl hH (sq (pl (qa rfl (n0 (sq (sq (pl (qa rfl (n0 ?_)))))))))
 refine pn_block (lpS (σ := Nat) (fun q => [(0, lv), (3, .int .i64 (q : Int))]) (fun q => HX) (fun q => (q ≤ l.length) ∧ (∀ j k, j < q → k < j → clashAt l j k = false)) (fun q => l.length - q) 0 ⟨(by omega), (fun j k hj => absurd hj (Nat.not_lt_zero _))⟩ ⟨rfl, rfl, trivial⟩ ?_)
 rintro i ⟨hi, hall⟩
 refine sq (sq (pn_plain [2] rfl (qm rfl (qm rfl (qq rfl (RD.lenX runUnderlying30 rfl hbl) (qq rfl (RD.lss rfl rfl) (n0 (pn_condD rfl (fun hc1 => ?_) (fun hc1 => ?_)))))))))
 ·refine sk (sq (pn_block (sq (pl (qa rfl (n0 (pn_block (lpS (σ := Nat) (fun q => [(0, lv), (3, .int .i64 (i : Int)), (4, .int .i64 (q : Int))]) (fun q => HX) (fun q => (q ≤ i) ∧ (∀ k, k < q → clashAt l i k = false)) (fun q => i - q) 0 ⟨(by omega), (fun j hj => absurd hj (Nat.not_lt_zero _))⟩ ⟨rfl, rfl, rfl, trivial⟩ ?_))))))))
  rintro i1 ⟨hi1, hin⟩
  refine sq (sq (pl (qm rfl (qm rfl (qq rfl (RD.lss rfl rfl) (n0 (pn_condD rfl (fun hc2 => ?_) (fun hc2 => ?_))))))))
  ·refine sk (sq (pn_block (sq (dG [3, 4, 8, 9, 15, 20] [] HX (qm rfl (qm rfl (qq rfl (RD.idxR (i := i) (o := (i * 1 + 0)) runUnderlying30 sizeOf32 rfl hbl rfl rfl (by omega) (by rfl)) (qq rfl (RD.ldR (i := i) (j := 0) (u := (BSl.v (gt l i))) isAgg32 rfl hbl (gt_some (by omega)) (by rfl) rfl sb) (qq rfl (RD.str_of_bytes underlying32 underlying9 underlying5 rfl (BytesIn.mono ((hbkl (gt l i) (gt_mem (by omega)))).bytes sb)) ?_)))))))))
   refine qm rfl (qm rfl (qq rfl (RD.idxR (i := i1) (o := (i1 * 1 + 0)) runUnderlying30 sizeOf32 rfl hbl rfl rfl (by omega) (by rfl)) (qq rfl (RD.ldR (i := i1) (j := 0) (u := (BSl.v (gt l i1))) isAgg32 rfl hbl (gt_some (by omega)) (by rfl) rfl sb) (qq rfl (RD.str_of_bytes underlying32 underlying9 underlying5 rfl (BytesIn.mono ((hbkl (gt l i1) (gt_mem (by omega)))).bytes sb)) (qq rfl (RD.neq_string rfl rfl) (qm rfl (TE_join (σ := Unit) (fun _ => [(0, lv), (3, .int .i64 (i : Int)), (4, .int .i64 (i1 : Int)), (39, .bool ((!decide ((⟨((gt l i).b).toArray⟩ : ByteArray) = (⟨((gt l i1).b).toArray⟩ : ByteArray))) && (sameN 32 (shaF ((gt l i).b)) (shaF ((gt l i1).b)))))]) (fun _ => HX) (fun _ => True) ?_ ?_)))))))
   ·refine TE_ndec (fun hf3 => ?_) (fun hf3 => ?_)
    ·refine qg rfl (qg rfl (TE_gq rfl rfl rfl rfl (RD.idxR (i := i) (o := (i * 1 + 0)) runUnderlying30 sizeOf32 rfl hbl rfl rfl (by omega) (by rfl)) rfl (TE_gq rfl rfl rfl rfl (RD.ldR (i := i) (j := 0) (u := (BSl.v (gt l i))) isAgg32 rfl hbl (gt_some (by omega)) (by rfl) rfl sb) rfl (cG rfl call70 (fun w hw => c_Of3 (BSl.v (gt l i)) ((gt l i).b) HX w ((hbkl (gt l i) (gt_mem (by omega))).mono sb) (hsl _ (gt_mem (by omega))) hw.s) ?_))))
     rintro v4 H5 ⟨rfl, rfl⟩ -
     refine qg rfl (qg rfl (TE_gq rfl rfl rfl rfl (RD.idxR (i := i1) (o := (i1 * 1 + 0)) runUnderlying30 sizeOf32 rfl hbl rfl rfl (by omega) (by rfl)) rfl (TE_gq rfl rfl rfl rfl (RD.ldR (i := i1) (j := 0) (u := (BSl.v (gt l i1))) isAgg32 rfl hbl (gt_some (by omega)) (by rfl) rfl sb) rfl (cG rfl call70 (fun w hw => c_Of3 (BSl.v (gt l i1)) ((gt l i1).b) HX w ((hbkl (gt l i1) (gt_mem (by omega))).mono sb) (hsl _ (gt_mem (by omega))) hw.s) ?_))))
     rintro v6 H7 ⟨rfl, rfl⟩ -
     exact TE_gq rfl rfl rfl rfl (RD.eql_agg eqGuardType36 (eq_id (shaF ((gt l i).b)) (shaF ((gt l i1).b))) rfl rfl) rfl (qT rfl (TE_nil (pn_give () trivial ⟨rfl, rfl, rfl, congrArg (fun b => some (Value.bool b)) (by first | (simp [hf3]; done) | (simp only [decide_eq_false hf3]; rfl) | (simp only [decide_eq_false hf3]; simp; done)), trivial⟩ sb)))
    ·refine qs rfl (qs rfl (qs rfl (qs rfl (qs rfl (qs rfl (qs rfl (qs rfl (qs rfl (qs rfl ?_)))))))))
     exact qs rfl (qF rfl (TE_nil (pn_give () trivial ⟨rfl, rfl, rfl, congrArg (fun b => some (Value.bool b)) (by first | (simp [hf3]; done) | (simp only [decide_eq_true hf3]; rfl) | (simp only [decide_eq_true hf3]; simp; done)), trivial⟩ sb)))
   rintro _ -
   refine pn_cond rfl (fun hc8 => ?_) (fun hc8 => ?_)
   ·simp only [Bool.and_eq_true, Bool.not_eq_true', decide_eq_false_iff_not] at hc8
    exact sq (plG [] [] (qa rfl (n0 (rt (pn_doneS [] rfl rfl ⟨(congrArg (Value.int .i64) (clashI_T (i := i) (k := i1) (by omega) (by omega) (by rw [clash_atE]; simpa using hc8))), rfl⟩ (fun _ => Nat.zero_le _) (fun _ he => nomatch he))))))
   ·simp only [Bool.and_eq_false_iff, Bool.not_eq_false', decide_eq_true_eq] at hc8
    exact sk (pl (qm rfl (qq rfl (RD.addI rfl rfl (by omega) (by omega)) (qa rfl (n0 (agS (i1 + 1) ⟨(by omega), (fun k hk => if h : k = i1 then by subst h; rw [clash_atE]; rcases hc8 with h8 | h8 <;> simp [h8] else hin k (by omega))⟩ (by omega) ⟨rfl, rfl, rfl, trivial⟩))))))
  ·exact xt (pl (qm rfl (qq rfl (RD.addI rfl rfl (by omega) (by omega)) (qa rfl (n0 (agS (i + 1) ⟨(by omega), (fun j k hj hk => if h : j = i then by subst h; exact hin k (by omega) else hall j k (by omega) hk)⟩ (by omega) ⟨rfl, rfl, trivial⟩))))))
 ·exact xt (sq (plG [] [] (qa rfl (n0 (rt (pn_doneS [] rfl rfl ⟨(congrArg (Value.int .i64) (clashI_F fun j k hj hk => hall j k (by omega) hk)), rfl⟩ (fun _ => Nat.zero_le _) (fun _ he => nomatch he)))))))
theorem c_alive8  (w : World) (hH : Hp [(0, .cells (wfV 8 (s8f shaB)).cells 130 (0, 0)), (1, .cells (wfV 64 (gtf shaK)).cells 257 (0, 0))] w) : Calls Tryz.prog 15 #[] w (Ret w [] fun v H1 => v = .bool true ∧ H1 = []) := by
 refine fn_enter (args := []) func15 rfl ntmps15 rfl hH (sq (pl (qa rfl (n0 (sq (pl (cG rfl call16 (fun w hw => c_stNew 5 w  hw.s) ?_)))))))
 rintro v7 H8 (⟨hq1, rfl, rfl⟩ | ⟨hq2, s3, mb4, rfl, rfl⟩) hX9
 ·exfalso; omega
 ·have hst6 : StOk (⟨5, 0, [], 0⟩ : St8) := st0_ok hq2; refine TE_sp [(s3, .cells #[.int .i64 ((⟨5, 0, [], 0⟩ : St8).q), .int .i64 ((⟨5, 0, [], 0⟩ : St8).sz), .map (some mb4)] 87 (0, 0)), (mb4, mapO keyV en8V ((⟨5, 0, [], 0⟩ : St8).l) ((⟨5, 0, [], 0⟩ : St8).c)), (0, .cells (wfV 8 (s8f shaB)).cells 130 (0, 0)), (1, .cells (wfV 64 (gtf shaK)).cells 257 (0, 0))] (fun a => by simp -failIfUnchanged <;> omega) ?_
  refine qm rfl (qe rfl (qe rfl (qa rfl (qa rfl (n0 (sq (pl (TE_buildSlice (cells := #[.int .u8 1, .int .u8 2, .int .u8 97, .int .u8 98]) rfl runUnderlying32 sizeOf5 zeroValue5 rfl rfl rfl (by kernel_rfl) trivial rfl fun b14 hb14 => (qa rfl ?_)))))))))
  refine n0 (sq (pl (qm rfl (qm rfl (cM [(s3, .cells #[.int .i64 ((⟨5, 0, [], 0⟩ : St8).q), .int .i64 ((⟨5, 0, [], 0⟩ : St8).sz), .map (some mb4)] 87 (0, 0)), (mb4, mapO keyV en8V ((⟨5, 0, [], 0⟩ : St8).l) ((⟨5, 0, [], 0⟩ : St8).c))] [(b14, .cells #[.int .u8 1, .int .u8 2, .int .u8 97, .int .u8 98] 5 (0, 0)), (0, .cells (wfV 8 (s8f shaB)).cells 130 (0, 0)), (1, .cells (wfV 64 (gtf shaK)).cells 257 (0, 0))] rfl call24 (ownC (.inl (hX9 _ List.mem_cons_self)) (ownC (.inl (hX9 _ (List.mem_cons_of_mem _ List.mem_cons_self))) own0)) (fun w hw => c_stPut s3 mb4 (⟨5, 0, [], 0⟩ : St8) (.slice (some ⟨b14, 0, none⟩) 4 4) [1, 2, 97, 98] [(b14, .cells #[.int .u8 1, .int .u8 2, .int .u8 97, .int .u8 98] 5 (0, 0))] w hst6 ((Rdb.of_x (Rdx.blk (enc := byteC) (H := [(b14, .cells #[.int .u8 1, .int .u8 2, .int .u8 97, .int .u8 98] 5 (0, 0))]) (xs := [1, 2, 97, 98]) (n := 4) (i := 0) (tl := []) (c := 4) byteC_len rfl rfl (Nat.le_refl _))).mono sb) (by first | (simp; done) | decide | (have h8 := put8_len (m := (put8 ⟨5, 0, [], 0⟩ [1, 2, 97, 98]).1) (b := [1, 2, 97, 98]); have h9 := put8_len (m := ⟨5, 0, [], 0⟩) (b := [1, 2, 97, 98]); have h7 : (⟨5, 0, [], 0⟩ : St8).l.length = 0 := rfl; omega)) hw.s) ?_)))))
  rintro v12 H13 ⟨rfl, rfl⟩ hX10
  have hst11 := put8_ok (b := [1, 2, 97, 98]) hst6 (by first | (simp; done) | decide | (have h8 := put8_len (m := (put8 ⟨5, 0, [], 0⟩ [1, 2, 97, 98]).1) (b := [1, 2, 97, 98]); have h9 := put8_len (m := ⟨5, 0, [], 0⟩) (b := [1, 2, 97, 98]); have h7 : (⟨5, 0, [], 0⟩ : St8).l.length = 0 := rfl; omega)) (by first | (simp; done) | decide | (have h8 := put8_len (m := (put8 ⟨5, 0, [], 0⟩ [1, 2, 97, 98]).1) (b := [1, 2, 97, 98]); have h9 := put8_len (m := ⟨5, 0, [], 0⟩) (b := [1, 2, 97, 98]); have h7 : (⟨5, 0, [], 0⟩ : St8).l.length = 0 := rfl; omega))
  refine tsp [(s3, .cells #[.int .i64 (((put8 (⟨5, 0, [], 0⟩ : St8) [1, 2, 97, 98]).1).q), .int .i64 (((put8 (⟨5, 0, [], 0⟩ : St8) [1, 2, 97, 98]).1).sz), .map (some mb4)] 87 (0, 0)), (mb4, mapO keyV en8V (((put8 (⟨5, 0, [], 0⟩ : St8) [1, 2, 97, 98]).1).l) (((put8 (⟨5, 0, [], 0⟩ : St8) [1, 2, 97, 98]).1).c)), (b14, .cells #[.int .u8 1, .int .u8 2, .int .u8 97, .int .u8 98] 5 (0, 0)), (0, .cells (wfV 8 (s8f shaB)).cells 130 (0, 0)), (1, .cells (wfV 64 (gtf shaK)).cells 257 (0, 0))] (qm rfl (qe rfl (qe rfl (TE_allocC (idV (fun _ => 0)).cells rfl zeroValue36 rfl trivial rfl fun b4 hb4 => (TE_putCW 0 _ _ [(b4, .cells (idV ((put8 (⟨5, 0, [], 0⟩ : St8) [1, 2, 97, 98]).2.1)).cells 36 (0, 0)), (s3, .cells #[.int .i64 (((put8 (⟨5, 0, [], 0⟩ : St8) [1, 2, 97, 98]).1).q), .int .i64 (((put8 (⟨5, 0, [], 0⟩ : St8) [1, 2, 97, 98]).1).sz), .map (some mb4)] 87 (0, 0)), (mb4, mapO keyV en8V (((put8 (⟨5, 0, [], 0⟩ : St8) [1, 2, 97, 98]).1).l) (((put8 (⟨5, 0, [], 0⟩ : St8) [1, 2, 97, 98]).1).c)), (b14, .cells #[.int .u8 1, .int .u8 2, .int .u8 97, .int .u8 98] 5 (0, 0)), (0, .cells (wfV 8 (s8f shaB)).cells 130 (0, 0)), (1, .cells (wfV 64 (gtf shaK)).cells 257 (0, 0))] rfl sizeOf36 trivial rfl rfl rfl rfl rfl rfl rfl rfl (.inl hb4) (qa rfl (n0 (sq (pl ?_)))))))))
  refine qm rfl (qm rfl (cM [(s3, .cells #[.int .i64 (((put8 (⟨5, 0, [], 0⟩ : St8) [1, 2, 97, 98]).1).q), .int .i64 (((put8 (⟨5, 0, [], 0⟩ : St8) [1, 2, 97, 98]).1).sz), .map (some mb4)] 87 (0, 0)), (mb4, mapO keyV en8V (((put8 (⟨5, 0, [], 0⟩ : St8) [1, 2, 97, 98]).1).l) (((put8 (⟨5, 0, [], 0⟩ : St8) [1, 2, 97, 98]).1).c))] [(b4, .cells (idV ((put8 (⟨5, 0, [], 0⟩ : St8) [1, 2, 97, 98]).2.1)).cells 36 (0, 0)), (b14, .cells #[.int .u8 1, .int .u8 2, .int .u8 97, .int .u8 98] 5 (0, 0)), (0, .cells (wfV 8 (s8f shaB)).cells 130 (0, 0)), (1, .cells (wfV 64 (gtf shaK)).cells 257 (0, 0))] rfl call24 (ownC (hX10 _ List.mem_cons_self) (ownC (hX10 _ (List.mem_cons_of_mem _ List.mem_cons_self)) own0)) (fun w hw => c_stPut s3 mb4 ((put8 (⟨5, 0, [], 0⟩ : St8) [1, 2, 97, 98]).1) (.slice (some ⟨b14, 0, none⟩) 4 4) [1, 2, 97, 98] [(b14, .cells #[.int .u8 1, .int .u8 2, .int .u8 97, .int .u8 98] 5 (0, 0))] w hst11 ((Rdb.of_x (Rdx.blk (enc := byteC) (H := [(b14, .cells #[.int .u8 1, .int .u8 2, .int .u8 97, .int .u8 98] 5 (0, 0))]) (xs := [1, 2, 97, 98]) (n := 4) (i := 0) (tl := []) (c := 4) byteC_len rfl rfl (Nat.le_refl _))).mono sb) (by first | (simp; done) | decide | (have h8 := put8_len (m := (put8 ⟨5, 0, [], 0⟩ [1, 2, 97, 98]).1) (b := [1, 2, 97, 98]); have h9 := put8_len (m := ⟨5, 0, [], 0⟩) (b := [1, 2, 97, 98]); have h7 : (⟨5, 0, [], 0⟩ : St8).l.length = 0 := rfl; omega)) hw.s) ?_))
  rintro v16 H17 ⟨rfl, rfl⟩ hX14
  have hst15 := put8_ok (b := [1, 2, 97, 98]) hst11 (by first | (simp; done) | decide | (have h8 := put8_len (m := (put8 ⟨5, 0, [], 0⟩ [1, 2, 97, 98]).1) (b := [1, 2, 97, 98]); have h9 := put8_len (m := ⟨5, 0, [], 0⟩) (b := [1, 2, 97, 98]); have h7 : (⟨5, 0, [], 0⟩ : St8).l.length = 0 := rfl; omega)) (by first | (simp; done) | decide | (have h8 := put8_len (m := (put8 ⟨5, 0, [], 0⟩ [1, 2, 97, 98]).1) (b := [1, 2, 97, 98]); have h9 := put8_len (m := ⟨5, 0, [], 0⟩) (b := [1, 2, 97, 98]); have h7 : (⟨5, 0, [], 0⟩ : St8).l.length = 0 := rfl; omega))
  refine tsp [(s3, .cells #[.int .i64 (((put8 ((put8 (⟨5, 0, [], 0⟩ : St8) [1, 2, 97, 98]).1) [1, 2, 97, 98]).1).q), .int .i64 (((put8 ((put8 (⟨5, 0, [], 0⟩ : St8) [1, 2, 97, 98]).1) [1, 2, 97, 98]).1).sz), .map (some mb4)] 87 (0, 0)), (mb4, mapO keyV en8V (((put8 ((put8 (⟨5, 0, [], 0⟩ : St8) [1, 2, 97, 98]).1) [1, 2, 97, 98]).1).l) (((put8 ((put8 (⟨5, 0, [], 0⟩ : St8) [1, 2, 97, 98]).1) [1, 2, 97, 98]).1).c)), (b4, .cells (idV ((put8 (⟨5, 0, [], 0⟩ : St8) [1, 2, 97, 98]).2.1)).cells 36 (0, 0)), (b14, .cells #[.int .u8 1, .int .u8 2, .int .u8 97, .int .u8 98] 5 (0, 0)), (0, .cells (wfV 8 (s8f shaB)).cells 130 (0, 0)), (1, .cells (wfV 64 (gtf shaK)).cells 257 (0, 0))] (qm rfl (qe rfl (qe rfl (TE_allocC (idV (fun _ => 0)).cells rfl zeroValue36 rfl trivial rfl fun b6 hb6 => (TE_putCW 0 _ _ [(b6, .cells (idV ((put8 ((put8 (⟨5, 0, [], 0⟩ : St8) [1, 2, 97, 98]).1) [1, 2, 97, 98]).2.1)).cells 36 (0, 0)), (s3, .cells #[.int .i64 (((put8 ((put8 (⟨5, 0, [], 0⟩ : St8) [1, 2, 97, 98]).1) [1, 2, 97, 98]).1).q), .int .i64 (((put8 ((put8 (⟨5, 0, [], 0⟩ : St8) [1, 2, 97, 98]).1) [1, 2, 97, 98]).1).sz), .map (some mb4)] 87 (0, 0)), (mb4, mapO keyV en8V (((put8 ((put8 (⟨5, 0, [], 0⟩ : St8) [1, 2, 97, 98]).1) [1, 2, 97, 98]).1).l) (((put8 ((put8 (⟨5, 0, [], 0⟩ : St8) [1, 2, 97, 98]).1) [1, 2, 97, 98]).1).c)), (b4, .cells (idV ((put8 (⟨5, 0, [], 0⟩ : St8) [1, 2, 97, 98]).2.1)).cells 36 (0, 0)), (b14, .cells #[.int .u8 1, .int .u8 2, .int .u8 97, .int .u8 98] 5 (0, 0)), (0, .cells (wfV 8 (s8f shaB)).cells 130 (0, 0)), (1, .cells (wfV 64 (gtf shaK)).cells 257 (0, 0))] rfl sizeOf36 trivial rfl rfl rfl rfl rfl rfl rfl rfl (.inl hb6) (qa rfl (n0 (sq (pl ?_)))))))))
  refine qm rfl (TE_buildSlice (cells := #[.int .u8 1, .int .u8 0]) rfl runUnderlying32 sizeOf5 zeroValue5 rfl rfl rfl (by kernel_rfl) trivial rfl fun b29 hb29 => (cM [(s3, .cells #[.int .i64 (((put8 ((put8 (⟨5, 0, [], 0⟩ : St8) [1, 2, 97, 98]).1) [1, 2, 97, 98]).1).q), .int .i64 (((put8 ((put8 (⟨5, 0, [], 0⟩ : St8) [1, 2, 97, 98]).1) [1, 2, 97, 98]).1).sz), .map (some mb4)] 87 (0, 0)), (mb4, mapO keyV en8V (((put8 ((put8 (⟨5, 0, [], 0⟩ : St8) [1, 2, 97, 98]).1) [1, 2, 97, 98]).1).l) (((put8 ((put8 (⟨5, 0, [], 0⟩ : St8) [1, 2, 97, 98]).1) [1, 2, 97, 98]).1).c))] [(b29, .cells #[.int .u8 1, .int .u8 0] 5 (0, 0)), (b6, .cells (idV ((put8 ((put8 (⟨5, 0, [], 0⟩ : St8) [1, 2, 97, 98]).1) [1, 2, 97, 98]).2.1)).cells 36 (0, 0)), (b4, .cells (idV ((put8 (⟨5, 0, [], 0⟩ : St8) [1, 2, 97, 98]).2.1)).cells 36 (0, 0)), (b14, .cells #[.int .u8 1, .int .u8 2, .int .u8 97, .int .u8 98] 5 (0, 0)), (0, .cells (wfV 8 (s8f shaB)).cells 130 (0, 0)), (1, .cells (wfV 64 (gtf shaK)).cells 257 (0, 0))] rfl call24 (ownC (hX14 _ List.mem_cons_self) (ownC (hX14 _ (List.mem_cons_of_mem _ List.mem_cons_self)) own0)) (fun w hw => c_stPut s3 mb4 ((put8 ((put8 (⟨5, 0, [], 0⟩ : St8) [1, 2, 97, 98]).1) [1, 2, 97, 98]).1) (.slice (some ⟨b29, 0, none⟩) 2 2) [1, 0] [(b29, .cells #[.int .u8 1, .int .u8 0] 5 (0, 0))] w hst15 ((Rdb.of_x (Rdx.blk (enc := byteC) (H := [(b29, .cells #[.int .u8 1, .int .u8 0] 5 (0, 0))]) (xs := [1, 0]) (n := 2) (i := 0) (tl := []) (c := 2) byteC_len rfl rfl (Nat.le_refl _))).mono sb) (by first | (simp; done) | decide | (have h8 := put8_len (m := (put8 ⟨5, 0, [], 0⟩ [1, 2, 97, 98]).1) (b := [1, 2, 97, 98]); have h9 := put8_len (m := ⟨5, 0, [], 0⟩) (b := [1, 2, 97, 98]); have h7 : (⟨5, 0, [], 0⟩ : St8).l.length = 0 := rfl; omega)) hw.s) ?_))
  rintro v20 H21 ⟨rfl, rfl⟩ hX18
  have hst19 := put8_ok (b := [1, 0]) hst15 (by first | (simp; done) | decide | (have h8 := put8_len (m := (put8 ⟨5, 0, [], 0⟩ [1, 2, 97, 98]).1) (b := [1, 2, 97, 98]); have h9 := put8_len (m := ⟨5, 0, [], 0⟩) (b := [1, 2, 97, 98]); have h7 : (⟨5, 0, [], 0⟩ : St8).l.length = 0 := rfl; omega)) (by first | (simp; done) | decide | (have h8 := put8_len (m := (put8 ⟨5, 0, [], 0⟩ [1, 2, 97, 98]).1) (b := [1, 2, 97, 98]); have h9 := put8_len (m := ⟨5, 0, [], 0⟩) (b := [1, 2, 97, 98]); have h7 : (⟨5, 0, [], 0⟩ : St8).l.length = 0 := rfl; omega))
  refine tsp [(s3, .cells #[.int .i64 (((put8 ((put8 ((put8 (⟨5, 0, [], 0⟩ : St8) [1, 2, 97, 98]).1) [1, 2, 97, 98]).1) [1, 0]).1).q), .int .i64 (((put8 ((put8 ((put8 (⟨5, 0, [], 0⟩ : St8) [1, 2, 97, 98]).1) [1, 2, 97, 98]).1) [1, 0]).1).sz), .map (some mb4)] 87 (0, 0)), (mb4, mapO keyV en8V (((put8 ((put8 ((put8 (⟨5, 0, [], 0⟩ : St8) [1, 2, 97, 98]).1) [1, 2, 97, 98]).1) [1, 0]).1).l) (((put8 ((put8 ((put8 (⟨5, 0, [], 0⟩ : St8) [1, 2, 97, 98]).1) [1, 2, 97, 98]).1) [1, 0]).1).c)), (b29, .cells #[.int .u8 1, .int .u8 0] 5 (0, 0)), (b6, .cells (idV ((put8 ((put8 (⟨5, 0, [], 0⟩ : St8) [1, 2, 97, 98]).1) [1, 2, 97, 98]).2.1)).cells 36 (0, 0)), (b4, .cells (idV ((put8 (⟨5, 0, [], 0⟩ : St8) [1, 2, 97, 98]).2.1)).cells 36 (0, 0)), (b14, .cells #[.int .u8 1, .int .u8 2, .int .u8 97, .int .u8 98] 5 (0, 0)), (0, .cells (wfV 8 (s8f shaB)).cells 130 (0, 0)), (1, .cells (wfV 64 (gtf shaK)).cells 257 (0, 0))] (qm rfl (qe rfl (qe rfl (TE_allocC (idV (fun _ => 0)).cells rfl zeroValue36 rfl trivial rfl fun b8 hb8 => (TE_putCW 0 _ _ [(b8, .cells (idV ((put8 ((put8 ((put8 (⟨5, 0, [], 0⟩ : St8) [1, 2, 97, 98]).1) [1, 2, 97, 98]).1) [1, 0]).2.1)).cells 36 (0, 0)), (s3, .cells #[.int .i64 (((put8 ((put8 ((put8 (⟨5, 0, [], 0⟩ : St8) [1, 2, 97, 98]).1) [1, 2, 97, 98]).1) [1, 0]).1).q), .int .i64 (((put8 ((put8 ((put8 (⟨5, 0, [], 0⟩ : St8) [1, 2, 97, 98]).1) [1, 2, 97, 98]).1) [1, 0]).1).sz), .map (some mb4)] 87 (0, 0)), (mb4, mapO keyV en8V (((put8 ((put8 ((put8 (⟨5, 0, [], 0⟩ : St8) [1, 2, 97, 98]).1) [1, 2, 97, 98]).1) [1, 0]).1).l) (((put8 ((put8 ((put8 (⟨5, 0, [], 0⟩ : St8) [1, 2, 97, 98]).1) [1, 2, 97, 98]).1) [1, 0]).1).c)), (b29, .cells #[.int .u8 1, .int .u8 0] 5 (0, 0)), (b6, .cells (idV ((put8 ((put8 (⟨5, 0, [], 0⟩ : St8) [1, 2, 97, 98]).1) [1, 2, 97, 98]).2.1)).cells 36 (0, 0)), (b4, .cells (idV ((put8 (⟨5, 0, [], 0⟩ : St8) [1, 2, 97, 98]).2.1)).cells 36 (0, 0)), (b14, .cells #[.int .u8 1, .int .u8 2, .int .u8 97, .int .u8 98] 5 (0, 0)), (0, .cells (wfV 8 (s8f shaB)).cells 130 (0, 0)), (1, .cells (wfV 64 (gtf shaK)).cells 257 (0, 0))] rfl sizeOf36 trivial rfl rfl rfl rfl rfl rfl rfl rfl (.inl hb8) (qa rfl (n0 (sq (dG [11, 18, 19] [] [(b8, .cells (idV ((put8 ((put8 ((put8 (⟨5, 0, [], 0⟩ : St8) [1, 2, 97, 98]).1) [1, 2, 97, 98]).1) [1, 0]).2.1)).cells 36 (0, 0)), (s3, .cells #[.int .i64 (((put8 ((put8 ((put8 (⟨5, 0, [], 0⟩ : St8) [1, 2, 97, 98]).1) [1, 2, 97, 98]).1) [1, 0]).1).q), .int .i64 (((put8 ((put8 ((put8 (⟨5, 0, [], 0⟩ : St8) [1, 2, 97, 98]).1) [1, 2, 97, 98]).1) [1, 0]).1).sz), .map (some mb4)] 87 (0, 0)), (mb4, mapO keyV en8V (((put8 ((put8 ((put8 (⟨5, 0, [], 0⟩ : St8) [1, 2, 97, 98]).1) [1, 2, 97, 98]).1) [1, 0]).1).l) (((put8 ((put8 ((put8 (⟨5, 0, [], 0⟩ : St8) [1, 2, 97, 98]).1) [1, 2, 97, 98]).1) [1, 0]).1).c)), (b29, .cells #[.int .u8 1, .int .u8 0] 5 (0, 0)), (b6, .cells (idV ((put8 ((put8 (⟨5, 0, [], 0⟩ : St8) [1, 2, 97, 98]).1) [1, 2, 97, 98]).2.1)).cells 36 (0, 0)), (b4, .cells (idV ((put8 (⟨5, 0, [], 0⟩ : St8) [1, 2, 97, 98]).2.1)).cells 36 (0, 0)), (b14, .cells #[.int .u8 1, .int .u8 2, .int .u8 97, .int .u8 98] 5 (0, 0)), (0, .cells (wfV 8 (s8f shaB)).cells 130 (0, 0)), (1, .cells (wfV 64 (gtf shaK)).cells 257 (0, 0))] ?_)))))))))
  refine qm rfl (qq rfl (RD.as (v := .bool true) (RD.eql rfl rfl) rfl) (qm rfl (qg rfl (TE_gq rfl rfl rfl rfl (RD.eql rfl rfl) rfl (qT rfl (qm rfl (TE_join (σ := Unit) (fun _ => [(0, .bool ((decide (((put8 (⟨5, 0, [], 0⟩ : St8) [1, 2, 97, 98]).2.2) = 0)) && ((decide (((put8 ((put8 (⟨5, 0, [], 0⟩ : St8) [1, 2, 97, 98]).1) [1, 2, 97, 98]).2.2) = 0)) && ((sameN 32 ((put8 (⟨5, 0, [], 0⟩ : St8) [1, 2, 97, 98]).2.1) (shaF [1, 2, 97, 98])) && ((sameN 32 ((put8 ((put8 (⟨5, 0, [], 0⟩ : St8) [1, 2, 97, 98]).1) [1, 2, 97, 98]).2.1) ((put8 (⟨5, 0, [], 0⟩ : St8) [1, 2, 97, 98]).2.1)) && ((decide (((put8 ((put8 ((put8 (⟨5, 0, [], 0⟩ : St8) [1, 2, 97, 98]).1) [1, 2, 97, 98]).1) [1, 0]).2.2) = 81)) && ((decide ((((put8 ((put8 ((put8 (⟨5, 0, [], 0⟩ : St8) [1, 2, 97, 98]).1) [1, 2, 97, 98]).1) [1, 0]).1).l.length : Int) = 1)) && ((decide ((((put8 ((put8 ((put8 (⟨5, 0, [], 0⟩ : St8) [1, 2, 97, 98]).1) [1, 2, 97, 98]).1) [1, 0]).1).sz) = 4)) && (decide ((((put8 ((put8 ((put8 (⟨5, 0, [], 0⟩ : St8) [1, 2, 97, 98]).1) [1, 2, 97, 98]).1) [1, 0]).1).q - ((put8 ((put8 ((put8 (⟨5, 0, [], 0⟩ : St8) [1, 2, 97, 98]).1) [1, 2, 97, 98]).1) [1, 0]).1).sz) = 1))))))))))]) (fun _ => [(b8, .cells (idV ((put8 ((put8 ((put8 (⟨5, 0, [], 0⟩ : St8) [1, 2, 97, 98]).1) [1, 2, 97, 98]).1) [1, 0]).2.1)).cells 36 (0, 0)), (s3, .cells #[.int .i64 (((put8 ((put8 ((put8 (⟨5, 0, [], 0⟩ : St8) [1, 2, 97, 98]).1) [1, 2, 97, 98]).1) [1, 0]).1).q), .int .i64 (((put8 ((put8 ((put8 (⟨5, 0, [], 0⟩ : St8) [1, 2, 97, 98]).1) [1, 2, 97, 98]).1) [1, 0]).1).sz), .map (some mb4)] 87 (0, 0)), (mb4, mapO keyV en8V (((put8 ((put8 ((put8 (⟨5, 0, [], 0⟩ : St8) [1, 2, 97, 98]).1) [1, 2, 97, 98]).1) [1, 0]).1).l) (((put8 ((put8 ((put8 (⟨5, 0, [], 0⟩ : St8) [1, 2, 97, 98]).1) [1, 2, 97, 98]).1) [1, 0]).1).c)), (b29, .cells #[.int .u8 1, .int .u8 0] 5 (0, 0)), (b6, .cells (idV ((put8 ((put8 (⟨5, 0, [], 0⟩ : St8) [1, 2, 97, 98]).1) [1, 2, 97, 98]).2.1)).cells 36 (0, 0)), (b4, .cells (idV ((put8 (⟨5, 0, [], 0⟩ : St8) [1, 2, 97, 98]).2.1)).cells 36 (0, 0)), (b14, .cells #[.int .u8 1, .int .u8 2, .int .u8 97, .int .u8 98] 5 (0, 0)), (0, .cells (wfV 8 (s8f shaB)).cells 130 (0, 0)), (1, .cells (wfV 64 (gtf shaK)).cells 257 (0, 0))]) (fun _ => True) ?_ ?_)))))))
  ·refine TE_dec (fun hf22 => ?_) (fun hf22 => ?_)
   ·refine qg rfl (TE_gq rfl rfl rfl rfl (RD.eql rfl rfl) rfl (qT rfl (qm rfl (TE_dec (fun hf23 => ?_) (fun hf23 => ?_)))))
    ·refine TE_gq rfl rfl rfl rfl (RD.loadA (i := 5) isAgg36 sizeOf36 rfl rfl (Nat.le_of_ble_eq_true rfl) (id_all _)) rfl (qg rfl (TE_buildSlice (cells := #[.slice (some ⟨b14, 0, none⟩) 4 4]) rfl runUnderlying30 sizeOf32 zeroValue32 rfl rfl rfl (by kernel_rfl) ⟨_, rfl, rfl⟩ rfl fun b46 hb46 => (cG rfl call21 (fun w hw => c_hashOf b46 (.slice (some ⟨b14, 0, none⟩) 4 4) [1, 2, 97, 98] [(b14, .cells #[.int .u8 1, .int .u8 2, .int .u8 97, .int .u8 98] 5 (0, 0))] w ((Rdb.of_x (Rdx.blk (enc := byteC) (H := [(b14, .cells #[.int .u8 1, .int .u8 2, .int .u8 97, .int .u8 98] 5 (0, 0))]) (xs := [1, 2, 97, 98]) (n := 4) (i := 0) (tl := []) (c := 4) byteC_len rfl rfl (Nat.le_refl _))).mono sb) (by first | (simp; done) | decide | (have h8 := put8_len (m := (put8 ⟨5, 0, [], 0⟩ [1, 2, 97, 98]).1) (b := [1, 2, 97, 98]); have h9 := put8_len (m := ⟨5, 0, [], 0⟩) (b := [1, 2, 97, 98]); have h7 : (⟨5, 0, [], 0⟩ : St8).l.length = 0 := rfl; omega)) hw.s) ?_)))
     rintro v24 H25 ⟨rfl, rfl⟩ -
     refine TE_gq rfl rfl rfl rfl (RD.eql_agg eqGuardType36 (eq_id ((put8 (⟨5, 0, [], 0⟩ : St8) [1, 2, 97, 98]).2.1) (shaF [1, 2, 97, 98])) rfl rfl) rfl (qT rfl (qm rfl (TE_bool (fun hf26 => ?_) (fun hf26 => ?_))))
     ·refine TE_gq rfl rfl rfl rfl (RD.loadA (i := 4) isAgg36 sizeOf36 rfl rfl (Nat.le_of_ble_eq_true rfl) (id_all _)) rfl (TE_gq rfl rfl rfl rfl (RD.loadA (i := 5) isAgg36 sizeOf36 rfl rfl (Nat.le_of_ble_eq_true rfl) (id_all _)) rfl (TE_gq rfl rfl rfl rfl (RD.eql_agg eqGuardType36 (eq_id ((put8 ((put8 (⟨5, 0, [], 0⟩ : St8) [1, 2, 97, 98]).1) [1, 2, 97, 98]).2.1) ((put8 (⟨5, 0, [], 0⟩ : St8) [1, 2, 97, 98]).2.1)) rfl rfl) rfl (qT rfl (qm rfl (TE_bool (fun hf27 => ?_) (fun hf27 => ?_))))))
      ·refine qg rfl (TE_gq rfl rfl rfl rfl (RD.eql rfl rfl) rfl (qT rfl (qm rfl (TE_dec (fun hf28 => ?_) (fun hf28 => ?_)))))
       ·refine qg rfl (cG rfl call23 (fun w hw => c_stLen s3 mb4 ((put8 ((put8 ((put8 (⟨5, 0, [], 0⟩ : St8) [1, 2, 97, 98]).1) [1, 2, 97, 98]).1) [1, 0]).1) w hst19 hw.s) ?_)
        rintro v29 H30 ⟨rfl, rfl⟩ -
        refine TE_gq rfl rfl rfl rfl (RD.eql rfl rfl) rfl (qT rfl (qm rfl (TE_dec (fun hf31 => ?_) (fun hf31 => ?_))))
        ·refine qg rfl (cG rfl call38 (fun w hw => c_stSize s3 mb4 ((put8 ((put8 ((put8 (⟨5, 0, [], 0⟩ : St8) [1, 2, 97, 98]).1) [1, 2, 97, 98]).1) [1, 0]).1) w hst19 hw.s) ?_)
         rintro v32 H33 ⟨rfl, rfl⟩ -
         refine TE_gq rfl rfl rfl rfl (RD.eql rfl rfl) rfl (qT rfl (qm rfl (TE_dec (fun hf34 => ?_) (fun hf34 => ?_))))
         ·refine qg rfl (cG rfl call22 (fun w hw => c_stLeft s3 mb4 ((put8 ((put8 ((put8 (⟨5, 0, [], 0⟩ : St8) [1, 2, 97, 98]).1) [1, 2, 97, 98]).1) [1, 0]).1) w hst19 hw.s) ?_)
          rintro v35 H36 ⟨rfl, rfl⟩ -
          exact TE_gq rfl rfl rfl rfl (RD.eql rfl rfl) rfl (qT rfl (qa rfl (TE_nil (pn_give () trivial ⟨congrArg (fun b => some (Value.bool b)) (by first | (simp [hf22, hf23, hf26, hf27, hf28, hf31, hf34]; done) | (simp only [decide_eq_true hf22, decide_eq_true hf23, hf26, hf27, decide_eq_true hf28, decide_eq_true hf31, decide_eq_true hf34]; rfl) | (simp only [decide_eq_true hf22, decide_eq_true hf23, hf26, hf27, decide_eq_true hf28, decide_eq_true hf31, decide_eq_true hf34]; simp; done)), trivial⟩ sb))))
         ·exact qs rfl (qs rfl (qs rfl (qF rfl (qa rfl (TE_nil (pn_give () trivial ⟨congrArg (fun b => some (Value.bool b)) (by first | (simp [hf22, hf23, hf26, hf27, hf28, hf31, hf34]; done) | (simp only [decide_eq_true hf22, decide_eq_true hf23, hf26, hf27, decide_eq_true hf28, decide_eq_true hf31, decide_eq_false hf34]; rfl) | (simp only [decide_eq_true hf22, decide_eq_true hf23, hf26, hf27, decide_eq_true hf28, decide_eq_true hf31, decide_eq_false hf34]; simp; done)), trivial⟩ sb))))))
        ·refine qs rfl (qs rfl (qs rfl (qF rfl (qm rfl (qs rfl (qs rfl (qs rfl (qF rfl (qa rfl ?_)))))))))
         exact TE_nil (pn_give () trivial ⟨congrArg (fun b => some (Value.bool b)) (by first | (simp [hf22, hf23, hf26, hf27, hf28, hf31]; done) | (simp only [decide_eq_true hf22, decide_eq_true hf23, hf26, hf27, decide_eq_true hf28, decide_eq_false hf31]; rfl) | (simp only [decide_eq_true hf22, decide_eq_true hf23, hf26, hf27, decide_eq_true hf28, decide_eq_false hf31]; simp; done)), trivial⟩ sb)
       ·refine qs rfl (qs rfl (qs rfl (qF rfl (qm rfl (qs rfl (qs rfl (qs rfl (qF rfl (qm rfl ?_)))))))))
        exact qs rfl (qs rfl (qs rfl (qF rfl (qa rfl (TE_nil (pn_give () trivial ⟨congrArg (fun b => some (Value.bool b)) (by first | (simp [hf22, hf23, hf26, hf27, hf28]; done) | (simp only [decide_eq_true hf22, decide_eq_true hf23, hf26, hf27, decide_eq_false hf28]; rfl) | (simp only [decide_eq_true hf22, decide_eq_true hf23, hf26, hf27, decide_eq_false hf28]; simp; done)), trivial⟩ sb))))))
      ·refine qs rfl (qs rfl (qF rfl (qm rfl (qs rfl (qs rfl (qs rfl (qF rfl (qm rfl (qs rfl ?_)))))))))
       refine qs rfl (qs rfl (qF rfl (qm rfl (qs rfl (qs rfl (qs rfl (qF rfl (qa rfl (TE_nil ?_)))))))))
       exact pn_give () trivial ⟨congrArg (fun b => some (Value.bool b)) (by first | (simp [hf22, hf23, hf26, hf27]; done) | (simp only [decide_eq_true hf22, decide_eq_true hf23, hf26, hf27]; rfl) | (simp only [decide_eq_true hf22, decide_eq_true hf23, hf26, hf27]; simp; done)), trivial⟩ sb
     ·refine qs rfl (qs rfl (qs rfl (qF rfl (qm rfl (qs rfl (qs rfl (qF rfl (qm rfl (qs rfl ?_)))))))))
      refine qs rfl (qs rfl (qF rfl (qm rfl (qs rfl (qs rfl (qs rfl (qF rfl (qm rfl (qs rfl ?_)))))))))
      exact qs rfl (qs rfl (qF rfl (qa rfl (TE_nil (pn_give () trivial ⟨congrArg (fun b => some (Value.bool b)) (by first | (simp [hf22, hf23, hf26]; done) | (simp only [decide_eq_true hf22, decide_eq_true hf23, hf26]; rfl) | (simp only [decide_eq_true hf22, decide_eq_true hf23, hf26]; simp; done)), trivial⟩ sb)))))
    ·refine qs rfl (qs rfl (qs rfl (qs rfl (qs rfl (qF rfl (qm rfl (qs rfl (qs rfl (qs rfl ?_)))))))))
     refine qF rfl (qm rfl (qs rfl (qs rfl (qF rfl (qm rfl (qs rfl (qs rfl (qs rfl (qF rfl ?_)))))))))
     refine qm rfl (qs rfl (qs rfl (qs rfl (qF rfl (qm rfl (qs rfl (qs rfl (qs rfl (qF rfl ?_)))))))))
     exact qa rfl (TE_nil (pn_give () trivial ⟨congrArg (fun b => some (Value.bool b)) (by first | (simp [hf22, hf23]; done) | (simp only [decide_eq_true hf22, decide_eq_false hf23]; rfl) | (simp only [decide_eq_true hf22, decide_eq_false hf23]; simp; done)), trivial⟩ sb))
   ·refine qs rfl (qs rfl (qF rfl (qm rfl (qs rfl (qs rfl (qs rfl (qs rfl (qs rfl (qF rfl ?_)))))))))
    refine qm rfl (qs rfl (qs rfl (qs rfl (qF rfl (qm rfl (qs rfl (qs rfl (qF rfl (qm rfl ?_)))))))))
    refine qs rfl (qs rfl (qs rfl (qF rfl (qm rfl (qs rfl (qs rfl (qs rfl (qF rfl (qm rfl ?_)))))))))
    exact qs rfl (qs rfl (qs rfl (qF rfl (qa rfl (TE_nil (pn_give () trivial ⟨congrArg (fun b => some (Value.bool b)) (by first | (simp [hf22]; done) | (simp only [decide_eq_false hf22]; rfl) | (simp only [decide_eq_false hf22]; simp; done)), trivial⟩ sb))))))
  rintro _ -
  exact rt (pn_doneS [] rfl rfl ⟨(congrArg Value.bool (by kernel_rfl)), rfl⟩ (fun _ => Nat.zero_le _) (fun _ he => nomatch he))
end Go.Proofs.YtmjmaloapafnlaaGreatDoor
