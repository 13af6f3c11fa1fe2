import Derived.Test.YtcmnmigcalibdaaGreatDoorGba
namespace Go.Proofs.YtcmnmigcalibdaaGreatDoor
open Go.Proofs.Tryz
open Go Go.Mv
set_option maxRecDepth 8000
def idsB (a b : List (Nat → Int)) : Bool := decide (a.length = b.length) && (List.range a.length).all fun i => sameN 32 (gt a i) (gt b i)
theorem idsB_0 {a b : List (Nat → Int)} (h : ¬ (a.length : Int) = b.length) : false = idsB a b := by
  rw [idsB, decide_eq_false (by omega)]; rfl
theorem idsB_1 {a b : List (Nat → Int)} {i : Nat} (hi : i < a.length) (h : sameN 32 (gt a i) (gt b i) = false) : false = idsB a b := by
  have : (List.range a.length).all (fun i => sameN 32 (gt a i) (gt b i)) = false := List.all_eq_false.2 ⟨i, List.mem_range.2 hi, by simp [h]⟩
  rw [idsB, this, Bool.and_false]
theorem idsB_2 {a b : List (Nat → Int)} (hl : (a.length : Int) = b.length) (h : ∀ j, j < a.length → sameN 32 (gt a j) (gt b j) = true) : true = idsB a b := by
  rw [idsB, decide_eq_true (by omega : a.length = b.length), List.all_eq_true.2 fun i hi => h i (List.mem_range.1 hi)]; rfl
theorem idsB_self (a : List (Nat → Int)) : idsB a a = true := (idsB_2 rfl fun _ _ => sameN_self _ _).symm
def hasI (l : List (Nat → Int)) (x : Nat → Int) : Bool := l.any fun y => sameN 32 y x
def lessI (a b : List (Nat → Int)) : List (Nat → Int) := a.filter fun x => !hasI b x
section
variable {l : List (Nat → Int)} {x : Nat → Int} {lo hi : Nat}
theorem srt_at (hs : l.Pairwise fun x y => idCmp x y < 0) {j k : Nat} (hj : j < k) (hk : k < l.length) : idCmp (gt l j) (gt l k) < 0 := by
  have h := List.pairwise_iff_getElem.1 hs j k (by omega) hk hj
  rwa [gt_eq (List.getElem?_eq_getElem (by omega)), gt_eq (List.getElem?_eq_getElem hk)]
theorem bs_lo (hs : l.Pairwise fun x y => idCmp x y < 0) {m : Nat} (hm : m < l.length) (h : idCmp (gt l m) x < 0) : ∀ k, k < m + 1 → idCmp (gt l k) x < 0 := fun k hk => by
  by_cases e : k = m
  · subst e; exact h
  · exact idCmp_tr _ _ _ (srt_at hs (by omega) hm) h
theorem bs_hi (hs : l.Pairwise fun x y => idCmp x y < 0) {m : Nat} (h : ¬ idCmp (gt l m) x < 0) : ∀ k, m ≤ k → k < l.length → ¬ idCmp (gt l k) x < 0 := fun k hk hl h2 => by
  by_cases e : k = m
  · subst e; exact h h2
  · exact h (idCmp_tr _ _ _ (srt_at hs (by omega) hl) h2)
theorem bs_end (hs : l.Pairwise fun x y => idCmp x y < 0) (h1 : ∀ k, k < lo → idCmp (gt l k) x < 0) (h2 : ∀ k, lo ≤ k → k < l.length → ¬ idCmp (gt l k) x < 0) : ((decide ((lo : Int) < (l.length : Int))) && (decide (idCmp (gt l lo) x = 0))) = hasI l x := by
  rw [idCmp_same]
  by_cases hl : lo < l.length
  · rw [decide_eq_true (by omega : (lo : Int) < l.length), Bool.true_and]
    cases h : sameN 32 (gt l lo) x with
    | true => exact (List.any_eq_true.2 ⟨_, gt_mem hl, h⟩).symm
    | false =>
      refine (List.any_eq_false.2 fun y hy => ?_).symm
      obtain ⟨k, hk⟩ := List.getElem?_of_mem hy
      have lk := (List.getElem?_eq_some_iff.1 hk).1
      rw [← gt_eq hk, ← idCmp_same, decide_eq_true_eq]
      intro hz
      rcases Nat.lt_trichotomy k lo with h3 | h3 | h3
      · have := h1 k h3; omega
      · subst h3; rw [← idCmp_same] at h; simp [hz] at h
      · exact absurd (srt_at hs h3 lk) (idCmp_nt _ _ _ (h2 lo (Nat.le_refl _) hl) (by rw [idCmp_swap (gt l k) x, hz]; decide))
  · rw [decide_eq_false (by omega : ¬ (lo : Int) < l.length), Bool.false_and]
    refine (List.any_eq_false.2 fun y hy => ?_).symm
    obtain ⟨k, hk⟩ := List.getElem?_of_mem hy
    have lk := (List.getElem?_eq_some_iff.1 hk).1
    rw [← gt_eq hk, ← idCmp_same, decide_eq_true_eq]
    have := h1 k (by omega); omega
end
theorem less_next {a b : List (Nat → Int)} {i : Nat} (hi : i < a.length) : lessI (a.take (i + 1)) b = if hasI b (gt a i) then lessI (a.take i) b else lessI (a.take i) b ++ [gt a i] := by
  rw [take_succ_of (gt_some hi)]
  simp only [lessI, List.filter_append, List.filter_cons, List.filter_nil]
  cases hasI b (gt a i) <;> simp
theorem less_T {a b : List (Nat → Int)} {i : Nat} (hi : i < a.length) (h : hasI b (gt a i) = true) : lessI (a.take i) b = lessI (a.take (i + 1)) b := by rw [less_next hi, if_pos h]
theorem less_F {a b : List (Nat → Int)} {i : Nat} (hi : i < a.length) (h : hasI b (gt a i) = false) : lessI (a.take i) b ++ [gt a i] = lessI (a.take (i + 1)) b := by rw [less_next hi, if_neg (by simp [h])]
theorem less_len {a b : List (Nat → Int)} {i : Nat} : (lessI (a.take i) b).length ≤ a.length := by
  refine Nat.le_trans (List.length_filter_le _ _) ?_
  rw [List.length_take]; omega
theorem less_nil {a b : List (Nat → Int)} (h : ∀ x ∈ a, x ∈ b) : lessI a b = [] := by
  refine List.filter_eq_nil_iff.2 fun x hx => ?_
  simp only [Bool.not_eq_true', hasI, Bool.not_eq_false, List.any_eq_true]
  exact ⟨x, h x hx, sameN_self _ _⟩
theorem bs_u64 {a : Int} {n : Nat} (h : a = (n : Int)) (hn : n < 18446744073709551616) : Value.int .u64 (IntKind.u64.wrap a) = .int .u64 (n : Int) := by
  subst h; rw [u64_of (by omega) (by omega)]; rfl
theorem bs_half (n : Nat) : Value.int .u64 (((n : Nat) : Int).fdiv (2 ^ min (Int.toNat 1) (IntKind.u64.bits))) = .int .u64 ((n / 2 : Nat) : Int) := by
  rw [show (2 : Int) ^ min (Int.toNat 1) (IntKind.u64.bits) = 2 from rfl, Int.fdiv_eq_ediv_of_nonneg _ (by omega)]; rfl

theorem c_same3 (av : Value) (a : List ((Nat → Int))) (bv : Value) (b : List ((Nat → Int))) (HX : Mem) (w : World) (hba : Rdx 32 (idC) HX av a) (hla : a.length ≤ 1000000) (hbb : Rdx 32 (idC) HX bv b) (hlb : b.length ≤ 1000000) (hH : Hp HX w) : Calls Tryz.prog 23 #[av, bv] w (Ret w [] fun v H1 => v = .bool (idsB a b) ∧ H1 = []) := by
 refine fn_enter (args := [_, _]) func23 rfl ntmps23 rfl hH (sq (pl (qa rfl (n0 (sq (sq (pn_plain [1, 3] rfl (qm rfl (qq rfl (RD.lenX runUnderlying41 rfl hba) ?_)))))))))
 refine qm rfl (qq rfl (RD.lenX runUnderlying41 rfl hbb) (qq rfl (RD.neq rfl rfl) (n0 (pn_condN rfl (fun hc1 => ?_) (fun hc1 => ?_)))))
 ·exact sq (plG [] [] (qa rfl (n0 (rt (pn_doneS [] rfl rfl ⟨(congrArg Value.bool (idsB_0 hc1)), rfl⟩ (fun _ => Nat.zero_le _) (fun _ he => nomatch he))))))
 ·refine sk (sq (sq (pl (qa rfl (n0 (pn_block (lpS (σ := Nat) (fun q => [(0, av), (1, bv), (5, .int .i64 (q : Int))]) (fun q => HX) (fun q => (q ≤ a.length) ∧ (∀ j, j < q → sameN 32 (gt a j) (gt b j) = true)) (fun q => a.length - q) 0 ⟨(by omega), (fun j hj => absurd hj (Nat.not_lt_zero _))⟩ ⟨rfl, rfl, rfl, trivial⟩ ?_)))))))
  rintro i ⟨hi, hall⟩
  refine sq (sq (pn_plain [2] rfl (qm rfl (qm rfl (qq rfl (RD.lenX runUnderlying41 rfl hba) (qq rfl (RD.lss rfl rfl) (n0 (pn_condD rfl (fun hc2 => ?_) (fun hc2 => ?_)))))))))
  ·refine sk (sq (pn_block (sq (dG [3, 7] [] HX (qm rfl (qm rfl (qq rfl (RD.idxR (i := i) (o := (i * 32 + 0)) runUnderlying41 sizeOf35 rfl hba rfl rfl (by omega) (by rfl)) (qq rfl (RD.ldRA (i := i) (j := 0) (vs := (idC (gt a i))) isAgg35 sizeOf35 rfl hba (gt_some (by omega)) (by rfl) rfl (fun _ _ hu => by rw [Nat.zero_add]; exact hu) (idC_agg _) sb) (qm rfl ?_)))))))))
   refine qm rfl (qq rfl (RD.idxR (i := i) (o := (i * 32 + 0)) runUnderlying41 sizeOf35 rfl hbb rfl rfl (by omega) (by rfl)) (qq rfl (RD.ldRA (i := i) (j := 0) (vs := (idC (gt b i))) isAgg35 sizeOf35 rfl hbb (gt_some (by omega)) (by rfl) rfl (fun _ _ hu => by rw [Nat.zero_add]; exact hu) (idC_agg _) sb) (qq rfl (RD.neq_agg eqGuardType35 (eq_id (gt a i) (gt b i)) rfl rfl) (TE_nil (pn_cond rfl (fun hc3 => ?_) (fun hc3 => ?_))))))
   ·simp only [Bool.not_eq_true'] at hc3
    exact sq (plG [] [] (qa rfl (n0 (rt (pn_doneS [] rfl rfl ⟨(congrArg Value.bool (idsB_1 (i := i) (by omega) hc3)), rfl⟩ (fun _ => Nat.zero_le _) (fun _ he => nomatch he))))))
   ·simp only [Bool.not_eq_false'] at hc3
    exact sk (plG [] HX (qm rfl (qq rfl (RD.addI rfl rfl (by omega) (by omega)) (qa rfl (n0 (agS (i + 1) ⟨(by omega), (fun j hj => if h : j = i then by subst h; exact hc3 else hall j (by omega))⟩ (by omega) ⟨rfl, rfl, rfl, trivial⟩))))))
  ·exact xt (sq (plG [] [] (qa rfl (n0 (rt (pn_doneS [] rfl rfl ⟨(congrArg Value.bool (idsB_2 hc1 fun j hj => hall j (by omega))), rfl⟩ (fun _ => Nat.zero_le _) (fun _ he => nomatch he)))))))
theorem c_bsearch (lv : Value) (l : List ((Nat → Int))) (x : (Nat → Int)) (HX : Mem) (w : World) (hbl : Rdx 32 (idC) HX lv l) (hll : l.length ≤ 1000000) (hol : ∀ x ∈ l, IdOk x) (hox : IdOk x) (hs : l.Pairwise fun x y => idCmp x y < 0) (hH : Hp HX w) : Calls Tryz.prog 140 #[lv, idV x, .func (.func 92) #[] #[]] w (Ret w [] fun v H1 => ∃ k : Int, v = .tuple #[.int .i64 k, .bool (hasI l x)] ∧ H1 = []) := by
 refine fn_enter (args := [_, _, _]) func140 rfl ntmps140 rfl hH (sq (pl (TE_boxC (idV x).cells rfl rfl rfl trivial rfl fun b4 hb4 => (qa rfl (qa rfl (n0 (sq (pn_plain [1] rfl (qm rfl ?_)))))))))
 refine qq rfl (RD.lenX runUnderlying41 rfl hbl) (qa rfl (n0 (sq (pl (qm rfl (qa rfl (qa rfl (n0 (sq ?_)))))))))
 refine pn_block (lpS (σ := Nat × Nat) (fun q => [(0, lv), (2, .func (.func 92) #[] #[]), (4, .pointer (some ⟨b4, 0, none⟩)), (8, .int .i64 (l.length : Int)), (9, .int .i64 (q.1 : Int)), (10, .int .i64 (q.2 : Int))]) (fun q => ((b4, .cells (idV x).cells 35 (0, 0)) :: HX)) (fun q => (q.1 ≤ q.2 ∧ q.2 ≤ l.length) ∧ (∀ k, k < q.1 → idCmp (gt l k) x < 0) ∧ (∀ k, q.2 ≤ k → k < l.length → ¬ idCmp (gt l k) x < 0)) (fun q => q.2 - q.1) (0, l.length) ⟨⟨Nat.zero_le _, Nat.le_refl _⟩, (fun k hk => absurd hk (Nat.not_lt_zero _)), (fun k h h' => absurd h' (Nat.not_lt.2 h))⟩ ⟨rfl, rfl, rfl, rfl, rfl, rfl, trivial⟩ ?_)
 rintro ⟨lo, hi⟩ ⟨hlh, h1, h2⟩
 dsimp only at hlh h1 h2 ⊢
 refine sq (sq (pl (qm rfl (qm rfl (qq rfl (RD.lss rfl rfl) (n0 (pn_condD rfl (fun hc1 => ?_) (fun hc1 => ?_))))))))
 ·refine sk (pn_block (sq (pn_plain [3, 5] rfl (qm rfl (qm rfl (qq rfl (RD.addI rfl rfl (by omega) (by omega)) (qq rfl (RD.as (v := .int .u64 ((lo + hi : Nat) : Int)) (RD.conv runUnderlying3 runUnderlying129 rfl) (bs_u64 (by omega) (by omega))) (qq rfl (RD.as (v := .int .u64 ((((lo + hi) / 2) : Nat) : Int)) (RD.shr rfl rfl (by decide)) (bs_half _)) (qq rfl (RD.convI runUnderlying129 runUnderlying3 rfl (by omega) (by omega)) ?_)))))))))
  refine qa rfl (n0 (sq (dG [4, 5] [] ((b4, .cells (idV x).cells 35 (0, 0)) :: HX) (qm rfl (qm rfl (qm rfl (qq rfl (RD.idxR (i := (((lo + hi) / 2) : Nat)) (o := ((((lo + hi) / 2) : Nat) * 32 + 0)) runUnderlying41 sizeOf35 rfl hbl rfl rfl (by omega) (by rfl)) (qq rfl (RD.ldRA (i := (((lo + hi) / 2) : Nat)) (j := 0) (vs := (idC (gt l (((lo + hi) / 2) : Nat)))) isAgg35 sizeOf35 rfl hbl (gt_some (by omega)) (by rfl) rfl (fun _ _ hu => by rw [Nat.zero_add]; exact hu) (idC_agg _) sb) (qq rfl (RD.loadA (i := 0) isAgg35 sizeOf35 rfl rfl (Nat.le_of_ble_eq_true rfl) (id_all _)) ?_)))))))))
  refine cG rfl call92 (fun w hw => c_hashCmp (gt l (((lo + hi) / 2) : Nat)) x w (hol _ (gt_mem (by omega))) hox) ?_
  rintro v2 H3 ⟨rfl, rfl⟩ -
  refine qq rfl (RD.lss rfl rfl) (TE_nil (pn_condD rfl (fun hc4 => ?_) (fun hc4 => ?_)))
  ·refine plG [] ((b4, .cells (idV x).cells 35 (0, 0)) :: HX) (qm rfl (qq rfl (RD.addI rfl rfl (by omega) (by omega)) (qa rfl (n0 ?_))))
   have he5 : (((((lo + hi) / 2) : Nat) : Int) + 1) = ((((lo + hi) / 2) + 1) : Int) := (by omega)
   exact agS ((((lo + hi) / 2) + 1), hi) ⟨(by omega), (bs_lo hs (by omega) hc4), h2⟩ (by dsimp only; omega) ⟨rfl, rfl, rfl, rfl, (congrArg (fun z => some (Value.int .i64 z)) he5), rfl, trivial⟩
  ·refine plG [] ((b4, .cells (idV x).cells 35 (0, 0)) :: HX) (qm rfl (qa rfl (n0 ?_)))
   have he6 : ((((lo + hi) / 2) : Nat) : Int) = (((lo + hi) / 2) : Int) := (by omega)
   exact agS (lo, ((lo + hi) / 2)) ⟨(by omega), h1, (bs_hi hs hc4)⟩ (by dsimp only; omega) ⟨rfl, rfl, rfl, rfl, rfl, (congrArg (fun z => some (Value.int .i64 z)) he6), trivial⟩
 ·refine xt (sq (dG [9, 10] [] ((b4, .cells (idV x).cells 35 (0, 0)) :: HX) (qm rfl (qm rfl (qm rfl (qq rfl (RD.lss rfl rfl) (qm rfl (TE_join (σ := Unit) (fun _ => [(6, .int .i64 (lo : Int)), (7, .bool ((decide ((lo : Int) < (l.length : Int))) && (decide ((idCmp (gt l lo) x) = 0))))]) (fun _ => ((b4, .cells (idV x).cells 35 (0, 0)) :: HX)) (fun _ => True) ?_ ?_))))))))
  ·refine TE_dec (fun hf7 => ?_) (fun hf7 => ?_)
   ·refine qg rfl (qg rfl (qg rfl (TE_gq rfl rfl rfl rfl (RD.idxR (i := lo) (o := (lo * 32 + 0)) runUnderlying41 sizeOf35 rfl hbl rfl rfl (by omega) (by rfl)) rfl (TE_gq rfl rfl rfl rfl (RD.ldRA (i := lo) (j := 0) (vs := (idC (gt l lo))) isAgg35 sizeOf35 rfl hbl (gt_some (by omega)) (by rfl) rfl (fun _ _ hu => by rw [Nat.zero_add]; exact hu) (idC_agg _) sb) rfl (TE_gq rfl rfl rfl rfl (RD.loadA (i := 0) isAgg35 sizeOf35 rfl rfl (Nat.le_of_ble_eq_true rfl) (id_all _)) rfl (cG rfl call92 (fun w hw => c_hashCmp (gt l lo) x w (hol _ (gt_mem (by omega))) hox) ?_))))))
    rintro v8 H9 ⟨rfl, rfl⟩ -
    exact TE_gq rfl rfl rfl rfl (RD.eql rfl rfl) rfl (qT rfl (qa rfl (qa rfl (TE_nil (pn_give () trivial ⟨rfl, congrArg (fun b => some (Value.bool b)) (by first | (simp [hf7]; done) | (simp only [decide_eq_true hf7]; rfl) | (simp only [decide_eq_true hf7]; simp; done)), trivial⟩ sb)))))
   ·refine qs rfl (qs rfl (qs rfl (qs rfl (qs rfl (qs rfl (qs rfl (qs rfl (qF rfl (qa rfl ?_)))))))))
    exact qa rfl (TE_nil (pn_give () trivial ⟨rfl, congrArg (fun b => some (Value.bool b)) (by first | (simp [hf7]; done) | (simp only [decide_eq_false hf7]; rfl) | (simp only [decide_eq_false hf7]; simp; done)), trivial⟩ sb))
  rintro _ -
  exact rt (pn_doneS [] rfl rfl ⟨_, congrArg (fun b => Value.tuple #[.int .i64 (lo : Int), .bool b]) (bs_end hs h1 (by rw [show lo = hi by omega]; exact h2)), rfl⟩ (fun _ => Nat.zero_le _) (fun _ he => nomatch he))
theorem c_hashHas (lv : Value) (l : List ((Nat → Int))) (x : (Nat → Int)) (HX : Mem) (w : World) (hbl : Rdx 32 (idC) HX lv l) (hll : l.length ≤ 1000000) (hol : ∀ x ∈ l, IdOk x) (hox : IdOk x) (hs : l.Pairwise fun x y => idCmp x y < 0) (hH : Hp HX w) : Calls Tryz.prog 73 #[lv, idV x] w (Ret w [] fun v H1 => v = .bool (hasI l x) ∧ H1 = []) := by
 refine fn_enter (args := [_, _]) func73 rfl ntmps73 rfl hH (sq (pl (TE_boxC (idV x).cells rfl rfl rfl trivial rfl fun b3 hb3 => (qa rfl (n0 (sq (pl (qm rfl (ql rfl (RD.loadA (i := 0) isAgg35 sizeOf35 rfl rfl (Nat.le_of_ble_eq_true rfl) (id_all _)) ?_)))))))))
 refine cG rfl call140 (fun w hw => c_bsearch lv l x HX w hbl.s hll hol hox hs hw.s) ?_
 rintro v2 H3 ⟨k1, rfl, rfl⟩ -
 refine qm rfl (qe rfl (qe rfl (qa rfl (qa rfl (n0 (sq (plG [] [] (qm rfl (qa rfl ?_)))))))))
 exact n0 (rt (pn_doneS [] rfl rfl ⟨rfl, rfl⟩ (fun _ => Nat.zero_le _) (fun _ he => nomatch he)))
theorem c_hashLess (av : Value) (a : List ((Nat → Int))) (bv : Value) (b : List ((Nat → Int))) (HX : Mem) (w : World) (hba : Rdx 32 (idC) HX av a) (hla : a.length ≤ 1000000) (hoa : ∀ x ∈ a, IdOk x) (hbb : Rdx 32 (idC) HX bv b) (hlb : b.length ≤ 1000000) (hob : ∀ x ∈ b, IdOk x) (hs : b.Pairwise fun x y => idCmp x y < 0) (hH : Hp HX w) : Calls Tryz.prog 47 #[av, bv] w (Ret w [] fun v H1 => ∃ st, BldOk 32 (idC) (lessI a b) st ∧ v = bldVx (lessI a b) st ∧ H1 = bldMx 35 (idC) (lessI a b) st) := by
 refine fn_enter (args := [_, _]) func47 rfl ntmps47 rfl hH (sq (pl (qa rfl (n0 (sq (pl (qa rfl (n0 (sq ?_)))))))))
 refine sq (pn_plain [1] rfl (qm rfl (qq rfl (RD.lenX runUnderlying41 rfl hba) (qm rfl (n0 (pn_block (lpS (σ := Nat × SnkS) (fun q => [(1, bv), (8, av), (9, .int .i64 (a.length : Int)), (5, bldVx (lessI (a.take q.1) b) q.2), (10, .int .i64 (q.1 : Int))]) (fun q => ((bldMx 35 idC (lessI (a.take q.1) b) q.2) ++ HX)) (fun q => (q.1 ≤ a.length) ∧ (BldOk 32 idC (lessI (a.take q.1) b) q.2) ∧ (∀ e ∈ bldMx 35 idC (lessI (a.take q.1) b) q.2, w.heap.size ≤ e.1 ∨ e.1 ∈ [])) (fun q => a.length - q.1) (0, none) ⟨(by omega), BldOk.nil, (by intro e he; cases he)⟩ ⟨rfl, rfl, rfl, rfl, rfl, trivial⟩ ?_)))))))
 rintro ⟨i, st5⟩ ⟨hi, hbost5, hXst5⟩
 dsimp only at hi hbost5 hXst5 ⊢
 have hRst5 := hbost5.rdx (u := 35) idC_len
 have hll := less_len (a := a) (b := b) (i := i)
 refine sq (pl (qq rfl (RD.lss rfl rfl) (n0 (sq (pn_condD rfl (fun hc1 => ?_) (fun hc1 => ?_))))))
 ·refine sk (sq (pn_block (sq (pl (qq rfl (RD.idxR (i := i) (o := (i * 32 + 0)) runUnderlying41 sizeOf35 rfl hba rfl rfl (by omega) (by rfl)) (ql rfl (RD.ldRA (i := i) (j := 0) (vs := (idC (gt a i))) isAgg35 sizeOf35 rfl hba (gt_some (by omega)) (by rfl) rfl (fun _ _ hu => by rw [Nat.zero_add]; exact hu) (idC_agg _) sb) (TE_allocC (idV (fun _ => 0)).cells rfl zeroValue35 rfl trivial rfl fun b7 hb7 => (TE_putCW 0 _ _ ((b7, .cells (idV (gt a i)).cells 35 (0, 0)) :: ((bldMx 35 idC (lessI (a.take i) b) st5) ++ HX)) rfl sizeOf35 trivial rfl rfl rfl rfl rfl rfl rfl rfl (.inl hb7) (n0 ?_)))))))))
  refine sq (pl (qm rfl (ql rfl (RD.loadA (i := 0) isAgg35 sizeOf35 rfl rfl (Nat.le_of_ble_eq_true rfl) (id_all _)) (cG rfl call73 (fun w hw => c_hashHas bv b (gt a i) HX w hbb.s hlb hob (hoa _ (gt_mem (by omega))) hs hw.s) ?_))))
  rintro v2 H3 ⟨rfl, rfl⟩ -
  refine qq rfl (RD.not rfl) (n0 (pn_cond rfl (fun hc4 => ?_) (fun hc4 => ?_)))
  ·simp only [Bool.not_eq_true'] at hc4
   refine pl (qm rfl (ql rfl (RD.loadA (i := 0) isAgg35 sizeOf35 rfl rfl (Nat.le_of_ble_eq_true rfl) (id_all _)) (TE_buildSlice (cells := (cat idC [(gt a i)] ++ []).toArray) rfl runUnderlying41 sizeOf35 zeroValue35 rfl rfl rfl (by kernel_rfl) trivial rfl fun b20 hb20 => (tsp ((bldMx 35 (idC) (lessI (a.take i) b) st5) ++ ((b20, .cells (cat idC [(gt a i)] ++ []).toArray 35 (0, 0)) :: (b7, .cells (idV (gt a i)).cells 35 (0, 0)) :: HX)) (TE_appendX (st := st5) (l := (lessI (a.take i) b)) (ys := [(gt a i)]) ((b20, .cells (cat idC [(gt a i)] ++ []).toArray 35 (0, 0)) :: (b7, .cells (idV (gt a i)).cells 35 (0, 0)) :: HX) idC_len idC_one rfl rfl rfl rfl trivial rfl underlying41 elId rfl rfl rfl hbost5 (Rdx.blk (enc := idC) (H := [(b20, .cells (cat idC [(gt a i)] ++ []).toArray 35 (0, 0))]) (xs := [(gt a i)]) (n := 1) (i := 0) (tl := []) (c := 1) idC_len rfl rfl (Nat.le_refl _)) sb (by simp; omega) rfl hXst5 ?_)))))
   intro st5 hbo6 hX7 _
   have hR9 := hbo6.rdx (u := 35) idC_len
   refine tsp ((b20, .cells (cat idC [(gt a i)] ++ []).toArray 35 (0, 0)) :: (b7, .cells (idV (gt a i)).cells 35 (0, 0)) :: ((bldMx 35 (idC) ((lessI (a.take i) b) ++ [(gt a i)]) st5) ++ HX)) (qa rfl (n0 (plG [] ((bldMx 35 idC ((lessI (a.take i) b) ++ [(gt a i)]) st5) ++ HX) (qq rfl (RD.addI rfl rfl (by omega) (by omega)) (qm rfl (n0 ?_))))))
   have he10 : ((lessI (a.take i) b) ++ [(gt a i)]) = (lessI (a.take (i + 1)) b) := (less_F (by omega) hc4)
   exact pn_againS ((i + 1), st5) ⟨(by omega), (by rw [← he10]; exact hbo6), (by rw [← he10]; exact hX7)⟩ (by dsimp only; omega) ⟨rfl, rfl, rfl, (congrArg (fun l => some (bldVx l st5)) he10), rfl, trivial⟩ (fun a => by (try simp only [← he10]); simp -failIfUnchanged <;> omega)
  ·simp only [Bool.not_eq_false'] at hc4
   refine sk (plG [] ((bldMx 35 idC (lessI (a.take i) b) st5) ++ HX) (qq rfl (RD.addI rfl rfl (by omega) (by omega)) (qm rfl (n0 ?_))))
   have he11 : (lessI (a.take i) b) = (lessI (a.take (i + 1)) b) := (less_T (by omega) hc4)
   exact pn_againS ((i + 1), st5) ⟨(by omega), (by rw [← he11]; exact hbost5), (by rw [← he11]; exact hXst5)⟩ (by dsimp only; omega) ⟨rfl, rfl, rfl, (congrArg (fun l => some (bldVx l st5)) he11), rfl, trivial⟩ (fun a => by (try simp only [← he11]); simp -failIfUnchanged <;> omega)
 ·refine xt (sq (plG [] (bldMx 35 idC (lessI (a.take i) b) st5) (qm rfl (qa rfl (n0 (rt ?_))))))
  have he12 : (lessI (a.take i) b) = (lessI a b) := (congrArg (fun z => lessI z b) (take_all (by omega)))
  exact dS (bldMx 35 idC (lessI (a.take i) b) st5) rfl rfl ⟨st5, (by rw [← he12]; exact hbost5), (by rw [← he12]; rfl), (by rw [← he12])⟩ hXst5
end Go.Proofs.YtcmnmigcalibdaaGreatDoor
