import Derived.Test.YtcmnmigcalibdaaGreatDoorGap
namespace Go.Proofs.YtcmnmigcalibdaaGreatDoor
open Go.Proofs.Tryz
open Go Go.Mv
set_option maxRecDepth 8000
def sevL {α : Type} (f : Option (List UInt8) → α × Option (List UInt8)) : Nat → Option (List UInt8) → List α × Option (List UInt8)
  | 0, o => ([], o)
  | _ + 1, none => ([], none)
  | n + 1, some ys => ((f (some ys)).1 :: (sevL f n (f (some ys)).2).1, (sevL f n (f (some ys)).2).2)
def sevM {α : Type} (f : Option (List UInt8) → α × Option (List UInt8)) (most : Nat) (o : Option (List UInt8)) : List α × Option (List UInt8) := sevL f (getM 0 (numD most) o).1 (getM 0 (numD most) o).2
section
variable {α : Type} {f : Option (List UInt8) → α × Option (List UInt8)}
theorem sevL_stop {k : Nat} {ys : List UInt8} {wr : Bool} (h : ¬ 0 < (k : Int) ∨ wr = true) : sevL f k (stO ys wr) = ([], stO ys wr) := by
  rcases h with h | h
  · obtain rfl : k = 0 := by omega
    rfl
  · subst h
    cases k <;> rfl
theorem sevL_end {n k : Nat} {o : Option (List UInt8)} {acc : List α} {ys : List UInt8} {wr : Bool} (hs : sevL f n o = (acc ++ (sevL f k (stO ys wr)).1, (sevL f k (stO ys wr)).2)) (h : ¬ 0 < (k : Int) ∨ wr = true) : sevL f n o = (acc, stO ys wr) := by
  rw [hs, sevL_stop h]; simp
theorem sevL_go {n k : Nat} {o : Option (List UInt8)} {acc : List α} {ys ys' : List UInt8} {wr wr' : Bool} (hs : sevL f n o = (acc ++ (sevL f k (stO ys wr)).1, (sevL f k (stO ys wr)).2)) (h : 0 < (k : Int) ∧ wr = false) (hg : (f (stO ys wr)).2 = stO ys' wr') : sevL f n o = ((acc ++ [(f (stO ys wr)).1]) ++ (sevL f (k - 1) (stO ys' wr')).1, (sevL f (k - 1) (stO ys' wr')).2) := by
  obtain ⟨hk, rfl⟩ := h
  obtain ⟨m, rfl⟩ : ∃ m, k = m + 1 := ⟨k - 1, by omega⟩
  have e : sevL f (m + 1) (stO ys false) = ((f (stO ys false)).1 :: (sevL f m (f (stO ys false)).2).1, (sevL f m (f (stO ys false)).2).2) := rfl
  rw [hs, e, hg]
  simp
end
theorem numD_le {most n : Nat} {ys r : List UInt8} (h : numD most ys = .ok n r) : n ≤ most := by
  unfold numD at h
  split at h
  · cases h
  · cases h
  · split at h
    · cases h
    · cases h; omega
theorem getNum_le {most : Nat} {o : Option (List UInt8)} : (getM 0 (numD most) o).1 ≤ most := by
  cases o with
  | none => exact Nat.zero_le _
  | some ys =>
    simp only [getM]
    split
    · rename_i h; exact numD_le h
    · exact Nat.zero_le _
theorem u64_pred {k : Nat} (h : 0 < (k : Int)) (hk : k ≤ 1000000) : IntKind.u64.wrap ((k : Int) - 1) = ((k - 1 : Nat) : Int) := by
  rw [u64_wrap, Int.emod_eq_of_lt (by omega) (by omega)]; omega

theorem c_sevE (rd : Nat) (s2 : Nat) (sv : Value) (ys : List UInt8) (wr : Bool) (most : Nat) (bt : Nat) (bc : Nat) (HX : Mem) (w : World) (hby : Rdb HX sv ys) (hly : ys.length ≤ 1000000) (hmost : most ≤ 1000) (hH : Hp ((rd, .cells #[.pointer (some ⟨s2, 0, none⟩), .bool wr] 211 (0, 0)) :: (s2, .cells #[sv] 178 (0, 0)) :: (bt, .cells #[.func (.func 125) #[] #[.pointer (some ⟨bc, 0, none⟩)]] 213 (0, 0)) :: (bc, .cells #[.pointer (some ⟨rd, 0, none⟩)] 209 (0, 0)) :: HX) w) : Calls Tryz.prog 128 #[.pointer (some ⟨rd, 0, none⟩), .int .u64 (most : Int), .func (.func 129) #[] #[.pointer (some ⟨bt, 0, none⟩), .pointer (some ⟨bc, 0, none⟩)]] w (Ret w (keys ((rd, .cells #[.pointer (some ⟨s2, 0, none⟩), .bool wr] 211 (0, 0)) :: (s2, .cells #[sv] 178 (0, 0)) :: HX)) fun v H1 => ∃ wr' ys' sv' st', Rdb HX sv' ys' ∧ ys'.length ≤ ys.length ∧ (sevM entM most (stO ys wr)).2 = stO ys' wr' ∧ BldOk 34 (entC) (sevM entM most (stO ys wr)).1 st' ∧ v = bldVx (sevM entM most (stO ys wr)).1 st' ∧ H1 = (rd, .cells #[.pointer (some ⟨s2, 0, none⟩), .bool wr'] 211 (0, 0)) :: (s2, .cells #[sv'] 178 (0, 0)) :: (bldMx 119 (entC) (sevM entM most (stO ys wr)).1 st' ++ HX)) := by
 refine fn_enter (args := [_, _, _]) func128 rfl ntmps128 rfl hH (sq (pl (qa rfl (n0 (sq (pl (qa rfl (n0 (sq ?_)))))))))
 refine sq (pl (qm rfl (qm rfl (qn rfl (qq rfl (RD.fieldAddr (o := 0) runUnderlying211 rfl rfl sizeOf85 rfl) (ql rfl (RD.load (i := 0) isAgg85 rfl rfl rfl) (qq rfl (RD.makeFunc rfl rfl) (qm rfl (cM ((rd, .cells #[.pointer (some ⟨s2, 0, none⟩), .bool wr] 211 (0, 0)) :: (s2, .cells #[sv] 178 (0, 0)) :: HX) [(bt, .cells #[.func (.func 125) #[] #[.pointer (some ⟨bc, 0, none⟩)]] 213 (0, 0)), (bc, .cells #[.pointer (some ⟨rd, 0, none⟩)] 209 (0, 0))] rfl call174 (ownC (.inr (by simp [keys])) (ownC (.inr (by simp [keys])) own_k2)) (fun w hw => c_getNum rd s2 sv ys wr most HX w hby.s hly (by first | assumption | omega | (simp; done) | (simp; omega)) hw.s) ?_)))))))))
 rintro v8 H9 ⟨wr2, ys3, sv4, hr5, hrl6, hg7, rfl, rfl⟩ hX1
 refine tsp ((rd, .cells #[.pointer (some ⟨s2, 0, none⟩), .bool wr2] 211 (0, 0)) :: (s2, .cells #[sv4] 178 (0, 0)) :: (bt, .cells #[.func (.func 125) #[] #[.pointer (some ⟨bc, 0, none⟩)]] 213 (0, 0)) :: (bc, .cells #[.pointer (some ⟨rd, 0, none⟩)] 209 (0, 0)) :: HX) (qa rfl (n0 (pn_block ?_)))
 have hnle := getNum_le (most := most) (o := stO ys wr)
 refine lpS (σ := Nat × (List Ent) × (List UInt8) × Value × Bool × SnkS) (fun q => [(0, .pointer (some ⟨rd, 0, none⟩)), (2, .func (.func 129) #[] #[.pointer (some ⟨bt, 0, none⟩), .pointer (some ⟨bc, 0, none⟩)]), (7, bldVx q.2.1 q.2.2.2.2.2), (8, .int .u64 ((q.1 : Nat) : Int))]) (fun q => ((rd, .cells #[.pointer (some ⟨s2, 0, none⟩), .bool q.2.2.2.2.1] 211 (0, 0)) :: (s2, .cells #[q.2.2.2.1] 178 (0, 0)) :: (bt, .cells #[.func (.func 125) #[] #[.pointer (some ⟨bc, 0, none⟩)]] 213 (0, 0)) :: (bc, .cells #[.pointer (some ⟨rd, 0, none⟩)] 209 (0, 0)) :: ((bldMx 119 entC q.2.1 q.2.2.2.2.2) ++ HX))) (fun q => (sevL entM (getM 0 (numD most) (stO ys wr)).1 (stO ys3 wr2) = (q.2.1 ++ (sevL entM q.1 (stO q.2.2.1 q.2.2.2.2.1)).1, (sevL entM q.1 (stO q.2.2.1 q.2.2.2.2.1)).2)) ∧ (Rdb HX q.2.2.2.1 q.2.2.1) ∧ (q.2.2.1.length ≤ ys3.length) ∧ (q.2.1.length + q.1 ≤ (getM 0 (numD most) (stO ys wr)).1) ∧ (BldOk 34 entC q.2.1 q.2.2.2.2.2) ∧ (∀ e ∈ bldMx 119 entC q.2.1 q.2.2.2.2.2, w.heap.size ≤ e.1 ∨ e.1 ∈ (keys ((rd, .cells #[.pointer (some ⟨s2, 0, none⟩), .bool wr] 211 (0, 0)) :: (s2, .cells #[sv] 178 (0, 0)) :: HX)))) (fun q => q.1) ((getM 0 (numD most) (stO ys wr)).1, [], ys3, sv4, wr2, none) ⟨rfl, hr5, (Nat.le_refl _), (by simp), BldOk.nil, (by intro e he; cases he)⟩ ⟨rfl, rfl, rfl, rfl, trivial⟩ ?_
 rintro ⟨k, acc, ys9, sv9, wr9, st7⟩ ⟨hs, hby9, hl9, hk9, hbost7, hXst7⟩
 dsimp only at hs hby9 hl9 hk9 hbost7 hXst7 ⊢
 have hRst7 := hbost7.rdx (u := 119) entC_len
 refine sq (sq (pl (qm rfl (qq rfl (RD.gtr rfl rfl) (qm rfl (TE_join (σ := Unit) (fun _ => [(0, .pointer (some ⟨rd, 0, none⟩)), (2, .func (.func 129) #[] #[.pointer (some ⟨bt, 0, none⟩), .pointer (some ⟨bc, 0, none⟩)]), (7, bldVx acc st7), (8, .int .u64 ((k : Nat) : Int)), (25, .bool ((decide (0 < ((k : Nat) : Int))) && (!wr9)))]) (fun _ => ((rd, .cells #[.pointer (some ⟨s2, 0, none⟩), .bool wr9] 211 (0, 0)) :: (s2, .cells #[sv9] 178 (0, 0)) :: (bt, .cells #[.func (.func 125) #[] #[.pointer (some ⟨bc, 0, none⟩)]] 213 (0, 0)) :: (bc, .cells #[.pointer (some ⟨rd, 0, none⟩)] 209 (0, 0)) :: ((bldMx 119 entC acc st7) ++ HX))) (fun _ => True) ?_ ?_))))))
 ·refine TE_dec (fun hf10 => ?_) (fun hf10 => ?_)
  ·exact qg rfl (TE_gq rfl rfl rfl rfl (RD.nilCheckP rfl) rfl (TE_gq rfl rfl rfl rfl (RD.fieldAddr (o := 1) runUnderlying211 rfl rfl sizeOf4 rfl) rfl (ql rfl (RD.load (i := 0) isAgg4 rfl rfl rfl) (TE_gq rfl rfl rfl rfl (RD.not rfl) rfl (qT rfl (n0 (pn_give () trivial ⟨rfl, rfl, rfl, rfl, congrArg (fun b => some (Value.bool b)) (by first | (simp [hf10]; done) | (simp only [decide_eq_true hf10]; rfl) | (simp only [decide_eq_true hf10]; simp; done)), trivial⟩ sb)))))))
  ·exact qs rfl (qs rfl (qs rfl (qs rfl (qs rfl (qF rfl (n0 (pn_give () trivial ⟨rfl, rfl, rfl, rfl, congrArg (fun b => some (Value.bool b)) (by first | (simp [hf10]; done) | (simp only [decide_eq_false hf10]; rfl) | (simp only [decide_eq_false hf10]; simp; done)), trivial⟩ sb)))))))
 rintro _ -
 refine pn_cond rfl (fun hc11 => ?_) (fun hc11 => ?_)
 ·simp only [Bool.and_eq_true, Bool.not_eq_true', decide_eq_true_eq] at hc11
  refine sk (sq (pn_block (pl (qm rfl (qm rfl (cM ((rd, .cells #[.pointer (some ⟨s2, 0, none⟩), .bool wr9] 211 (0, 0)) :: (s2, .cells #[sv9] 178 (0, 0)) :: HX) ((bt, .cells #[.func (.func 125) #[] #[.pointer (some ⟨bc, 0, none⟩)]] 213 (0, 0)) :: (bc, .cells #[.pointer (some ⟨rd, 0, none⟩)] 209 (0, 0)) :: (bldMx 119 entC acc st7)) rfl call129 (ownC (.inr (by simp [keys])) (ownC (.inr (by simp [keys])) (oC (oC hX1)))) (fun w hw => c_entry bt bc rd s2 sv9 ys9 wr9 HX w hby9.s (by first | assumption | omega | (simp; done) | (simp; omega)) hw.s) ?_))))))
  rintro v19 H20 ⟨wr13, ys14, sv15, hr16, hrl17, hg18, rfl, rfl⟩ hX12
  refine tsp ((rd, .cells #[.pointer (some ⟨s2, 0, none⟩), .bool wr13] 211 (0, 0)) :: (s2, .cells #[sv15] 178 (0, 0)) :: (bt, .cells #[.func (.func 125) #[] #[.pointer (some ⟨bc, 0, none⟩)]] 213 (0, 0)) :: (bc, .cells #[.pointer (some ⟨rd, 0, none⟩)] 209 (0, 0)) :: (HX ++ (bldMx 119 (entC) acc st7))) (TE_buildSlice (cells := (cat entC [(entM (stO ys9 wr9)).1] ++ []).toArray) rfl runUnderlying58 sizeOf119 zeroValue119 rfl rfl rfl (by kernel_rfl) trivial rfl fun b31 hb31 => (tsp ((bldMx 119 (entC) acc st7) ++ ((b31, .cells (cat entC [(entM (stO ys9 wr9)).1] ++ []).toArray 119 (0, 0)) :: (rd, .cells #[.pointer (some ⟨s2, 0, none⟩), .bool wr13] 211 (0, 0)) :: (s2, .cells #[sv15] 178 (0, 0)) :: (bt, .cells #[.func (.func 125) #[] #[.pointer (some ⟨bc, 0, none⟩)]] 213 (0, 0)) :: (bc, .cells #[.pointer (some ⟨rd, 0, none⟩)] 209 (0, 0)) :: HX)) (TE_appendX (st := st7) (l := acc) (ys := [(entM (stO ys9 wr9)).1]) ((b31, .cells (cat entC [(entM (stO ys9 wr9)).1] ++ []).toArray 119 (0, 0)) :: (rd, .cells #[.pointer (some ⟨s2, 0, none⟩), .bool wr13] 211 (0, 0)) :: (s2, .cells #[sv15] 178 (0, 0)) :: (bt, .cells #[.func (.func 125) #[] #[.pointer (some ⟨bc, 0, none⟩)]] 213 (0, 0)) :: (bc, .cells #[.pointer (some ⟨rd, 0, none⟩)] 209 (0, 0)) :: HX) entC_len entC_one rfl rfl rfl rfl trivial rfl underlying58 el_ent rfl rfl rfl hbost7 (Rdx.blk (enc := entC) (H := [(b31, .cells (cat entC [(entM (stO ys9 wr9)).1] ++ []).toArray 119 (0, 0))]) (xs := [(entM (stO ys9 wr9)).1]) (n := 1) (i := 0) (tl := []) (c := 1) entC_len rfl rfl (Nat.le_refl _)) sb (by simp; omega) rfl hXst7 ?_)))
  intro st21 hbo22 hX23 _
  have hR25 := hbo22.rdx (u := 119) entC_len
  refine tsp ((b31, .cells (cat entC [(entM (stO ys9 wr9)).1] ++ []).toArray 119 (0, 0)) :: (rd, .cells #[.pointer (some ⟨s2, 0, none⟩), .bool wr13] 211 (0, 0)) :: (s2, .cells #[sv15] 178 (0, 0)) :: (bt, .cells #[.func (.func 125) #[] #[.pointer (some ⟨bc, 0, none⟩)]] 213 (0, 0)) :: (bc, .cells #[.pointer (some ⟨rd, 0, none⟩)] 209 (0, 0)) :: ((bldMx 119 (entC) (acc ++ [(entM (stO ys9 wr9)).1]) st21) ++ HX)) (qa rfl (n0 (plG [] ((rd, .cells #[.pointer (some ⟨s2, 0, none⟩), .bool wr13] 211 (0, 0)) :: (s2, .cells #[sv15] 178 (0, 0)) :: (bt, .cells #[.func (.func 125) #[] #[.pointer (some ⟨bc, 0, none⟩)]] 213 (0, 0)) :: (bc, .cells #[.pointer (some ⟨rd, 0, none⟩)] 209 (0, 0)) :: ((bldMx 119 entC (acc ++ [(entM (stO ys9 wr9)).1]) st21) ++ HX)) (qm rfl (qq rfl (RD.sub rfl rfl) (qa rfl (n0 ?_)))))))
  have he26 : (IntKind.u64.wrap (((k : Nat) : Int) - 1)) = (((k - 1) : Nat) : Int) := (u64_pred hc11.1 (by omega))
  exact agS ((k - 1), (acc ++ [(entM (stO ys9 wr9)).1]), ys14, sv15, wr13, st21) ⟨(sevL_go hs hc11 hg18), hr16, (show ys14.length ≤ ys3.length by omega), (show (acc ++ [(entM (stO ys9 wr9)).1]).length + (k - 1) ≤ (getM 0 (numD most) (stO ys wr)).1 by simp only [List.length_append, List.length_cons, List.length_nil]; omega), hbo22, hX23⟩ (by dsimp only; omega) ⟨rfl, rfl, rfl, (congrArg (fun z => some (Value.int .u64 z)) he26), trivial⟩
 ·simp only [Bool.and_eq_false_iff, Bool.not_eq_false', decide_eq_false_iff_not] at hc11
  refine xt (sq (pl (qm rfl (qa rfl (n0 (rt ?_))))))
  have hg27 : (sevM entM most (stO ys wr)) = (acc, stO ys9 wr9) := (by rw [sevM, hg7]; exact sevL_end hs hc11)
  exact dS ((rd, .cells #[.pointer (some ⟨s2, 0, none⟩), .bool wr9] 211 (0, 0)) :: (s2, .cells #[sv9] 178 (0, 0)) :: ((bldMx 119 entC acc st7) ++ HX)) rfl rfl ⟨wr9, ys9, sv9, st7, hby9, (by omega), (by rw [hg27]), (by rw [hg27]; exact hbost7), (by rw [hg27]; rfl), (by rw [hg27])⟩ (ownC (.inr (by simp [keys])) (ownC (.inr (by simp [keys])) (ownA hXst7 (oC (oC hX1)))))
theorem c_sevI (rd : Nat) (s2 : Nat) (sv : Value) (ys : List UInt8) (wr : Bool) (most : Nat) (HX : Mem) (w : World) (hby : Rdb HX sv ys) (hly : ys.length ≤ 1000000) (hmost : most ≤ 1000) (hH : Hp ((rd, .cells #[.pointer (some ⟨s2, 0, none⟩), .bool wr] 211 (0, 0)) :: (s2, .cells #[sv] 178 (0, 0)) :: HX) w) : Calls Tryz.prog 131 #[.pointer (some ⟨rd, 0, none⟩), .int .u64 (most : Int), .func (.func 130) #[.pointer (some ⟨rd, 0, none⟩)] #[]] w (Ret w (keys ((rd, .cells #[.pointer (some ⟨s2, 0, none⟩), .bool wr] 211 (0, 0)) :: (s2, .cells #[sv] 178 (0, 0)) :: HX)) fun v H1 => ∃ wr' ys' sv' st', Rdb HX sv' ys' ∧ ys'.length ≤ ys.length ∧ (sevM idM most (stO ys wr)).2 = stO ys' wr' ∧ BldOk 32 (idC) (sevM idM most (stO ys wr)).1 st' ∧ v = bldVx (sevM idM most (stO ys wr)).1 st' ∧ H1 = (rd, .cells #[.pointer (some ⟨s2, 0, none⟩), .bool wr'] 211 (0, 0)) :: (s2, .cells #[sv'] 178 (0, 0)) :: (bldMx 35 (idC) (sevM idM most (stO ys wr)).1 st' ++ HX)) := by
 refine fn_enter (args := [_, _, _]) func131 rfl ntmps131 rfl hH (sq (pl (qa rfl (n0 (sq (pl (qa rfl (n0 (sq ?_)))))))))
 refine sq (pl (qm rfl (qm rfl (qn rfl (qq rfl (RD.fieldAddr (o := 0) runUnderlying211 rfl rfl sizeOf85 rfl) (ql rfl (RD.load (i := 0) isAgg85 rfl rfl rfl) (qq rfl (RD.makeFunc rfl rfl) (qm rfl (cM ((rd, .cells #[.pointer (some ⟨s2, 0, none⟩), .bool wr] 211 (0, 0)) :: (s2, .cells #[sv] 178 (0, 0)) :: HX) [] rfl call174 (ownC (.inr (by simp [keys])) (ownC (.inr (by simp [keys])) own_k2)) (fun w hw => c_getNum rd s2 sv ys wr most HX w hby.s hly (by first | assumption | omega | (simp; done) | (simp; omega)) hw.s) ?_)))))))))
 rintro v8 H9 ⟨wr2, ys3, sv4, hr5, hrl6, hg7, rfl, rfl⟩ hX1
 refine tsp ((rd, .cells #[.pointer (some ⟨s2, 0, none⟩), .bool wr2] 211 (0, 0)) :: (s2, .cells #[sv4] 178 (0, 0)) :: HX) (qa rfl (n0 (pn_block ?_)))
 have hnle := getNum_le (most := most) (o := stO ys wr)
 refine lpS (σ := Nat × (List (Nat → Int)) × (List UInt8) × Value × Bool × SnkS) (fun q => [(0, .pointer (some ⟨rd, 0, none⟩)), (2, .func (.func 130) #[.pointer (some ⟨rd, 0, none⟩)] #[]), (7, bldVx q.2.1 q.2.2.2.2.2), (8, .int .u64 ((q.1 : Nat) : Int))]) (fun q => ((rd, .cells #[.pointer (some ⟨s2, 0, none⟩), .bool q.2.2.2.2.1] 211 (0, 0)) :: (s2, .cells #[q.2.2.2.1] 178 (0, 0)) :: ((bldMx 35 idC q.2.1 q.2.2.2.2.2) ++ HX))) (fun q => (sevL idM (getM 0 (numD most) (stO ys wr)).1 (stO ys3 wr2) = (q.2.1 ++ (sevL idM q.1 (stO q.2.2.1 q.2.2.2.2.1)).1, (sevL idM q.1 (stO q.2.2.1 q.2.2.2.2.1)).2)) ∧ (Rdb HX q.2.2.2.1 q.2.2.1) ∧ (q.2.2.1.length ≤ ys3.length) ∧ (q.2.1.length + q.1 ≤ (getM 0 (numD most) (stO ys wr)).1) ∧ (BldOk 32 idC q.2.1 q.2.2.2.2.2) ∧ (∀ e ∈ bldMx 35 idC q.2.1 q.2.2.2.2.2, w.heap.size ≤ e.1 ∨ e.1 ∈ (keys ((rd, .cells #[.pointer (some ⟨s2, 0, none⟩), .bool wr] 211 (0, 0)) :: (s2, .cells #[sv] 178 (0, 0)) :: HX)))) (fun q => q.1) ((getM 0 (numD most) (stO ys wr)).1, [], ys3, sv4, wr2, none) ⟨rfl, hr5, (Nat.le_refl _), (by simp), BldOk.nil, (by intro e he; cases he)⟩ ⟨rfl, rfl, rfl, rfl, trivial⟩ ?_
 rintro ⟨k, acc, ys9, sv9, wr9, st7⟩ ⟨hs, hby9, hl9, hk9, hbost7, hXst7⟩
 dsimp only at hs hby9 hl9 hk9 hbost7 hXst7 ⊢
 have hRst7 := hbost7.rdx (u := 35) idC_len
 refine sq (sq (pl (qm rfl (qq rfl (RD.gtr rfl rfl) (qm rfl (TE_join (σ := Unit) (fun _ => [(0, .pointer (some ⟨rd, 0, none⟩)), (2, .func (.func 130) #[.pointer (some ⟨rd, 0, none⟩)] #[]), (7, bldVx acc st7), (8, .int .u64 ((k : Nat) : Int)), (25, .bool ((decide (0 < ((k : Nat) : Int))) && (!wr9)))]) (fun _ => ((rd, .cells #[.pointer (some ⟨s2, 0, none⟩), .bool wr9] 211 (0, 0)) :: (s2, .cells #[sv9] 178 (0, 0)) :: ((bldMx 35 idC acc st7) ++ HX))) (fun _ => True) ?_ ?_))))))
 ·refine TE_dec (fun hf10 => ?_) (fun hf10 => ?_)
  ·exact qg rfl (TE_gq rfl rfl rfl rfl (RD.nilCheckP rfl) rfl (TE_gq rfl rfl rfl rfl (RD.fieldAddr (o := 1) runUnderlying211 rfl rfl sizeOf4 rfl) rfl (ql rfl (RD.load (i := 0) isAgg4 rfl rfl rfl) (TE_gq rfl rfl rfl rfl (RD.not rfl) rfl (qT rfl (n0 (pn_give () trivial ⟨rfl, rfl, rfl, rfl, congrArg (fun b => some (Value.bool b)) (by first | (simp [hf10]; done) | (simp only [decide_eq_true hf10]; rfl) | (simp only [decide_eq_true hf10]; simp; done)), trivial⟩ sb)))))))
  ·exact qs rfl (qs rfl (qs rfl (qs rfl (qs rfl (qF rfl (n0 (pn_give () trivial ⟨rfl, rfl, rfl, rfl, congrArg (fun b => some (Value.bool b)) (by first | (simp [hf10]; done) | (simp only [decide_eq_false hf10]; rfl) | (simp only [decide_eq_false hf10]; simp; done)), trivial⟩ sb)))))))
 rintro _ -
 refine pn_cond rfl (fun hc11 => ?_) (fun hc11 => ?_)
 ·simp only [Bool.and_eq_true, Bool.not_eq_true', decide_eq_true_eq] at hc11
  refine sk (sq (pn_block (pl (qm rfl (qm rfl (cM ((rd, .cells #[.pointer (some ⟨s2, 0, none⟩), .bool wr9] 211 (0, 0)) :: (s2, .cells #[sv9] 178 (0, 0)) :: HX) (bldMx 35 idC acc st7) rfl call130 (ownC (.inr (by simp [keys])) (ownC (.inr (by simp [keys])) (oC (oC hX1)))) (fun w hw => c_rdId rd s2 sv9 ys9 wr9 HX w hby9.s (by first | assumption | omega | (simp; done) | (simp; omega)) hw.s) ?_))))))
  rintro v19 H20 ⟨wr13, ys14, sv15, hr16, hrl17, hg18, rfl, rfl⟩ hX12
  refine tsp ((rd, .cells #[.pointer (some ⟨s2, 0, none⟩), .bool wr13] 211 (0, 0)) :: (s2, .cells #[sv15] 178 (0, 0)) :: (HX ++ (bldMx 35 (idC) acc st7))) (TE_buildSlice (cells := (cat idC [(idM (stO ys9 wr9)).1] ++ []).toArray) rfl runUnderlying41 sizeOf35 zeroValue35 rfl rfl rfl (by kernel_rfl) trivial rfl fun b31 hb31 => (tsp ((bldMx 35 (idC) acc st7) ++ ((b31, .cells (cat idC [(idM (stO ys9 wr9)).1] ++ []).toArray 35 (0, 0)) :: (rd, .cells #[.pointer (some ⟨s2, 0, none⟩), .bool wr13] 211 (0, 0)) :: (s2, .cells #[sv15] 178 (0, 0)) :: HX)) (TE_appendX (st := st7) (l := acc) (ys := [(idM (stO ys9 wr9)).1]) ((b31, .cells (cat idC [(idM (stO ys9 wr9)).1] ++ []).toArray 35 (0, 0)) :: (rd, .cells #[.pointer (some ⟨s2, 0, none⟩), .bool wr13] 211 (0, 0)) :: (s2, .cells #[sv15] 178 (0, 0)) :: HX) idC_len idC_one rfl rfl rfl rfl trivial rfl underlying41 elId rfl rfl rfl hbost7 (Rdx.blk (enc := idC) (H := [(b31, .cells (cat idC [(idM (stO ys9 wr9)).1] ++ []).toArray 35 (0, 0))]) (xs := [(idM (stO ys9 wr9)).1]) (n := 1) (i := 0) (tl := []) (c := 1) idC_len rfl rfl (Nat.le_refl _)) sb (by simp; omega) rfl hXst7 ?_)))
  intro st21 hbo22 hX23 _
  have hR25 := hbo22.rdx (u := 35) idC_len
  refine tsp ((b31, .cells (cat idC [(idM (stO ys9 wr9)).1] ++ []).toArray 35 (0, 0)) :: (rd, .cells #[.pointer (some ⟨s2, 0, none⟩), .bool wr13] 211 (0, 0)) :: (s2, .cells #[sv15] 178 (0, 0)) :: ((bldMx 35 (idC) (acc ++ [(idM (stO ys9 wr9)).1]) st21) ++ HX)) (qa rfl (n0 (plG [] ((rd, .cells #[.pointer (some ⟨s2, 0, none⟩), .bool wr13] 211 (0, 0)) :: (s2, .cells #[sv15] 178 (0, 0)) :: ((bldMx 35 idC (acc ++ [(idM (stO ys9 wr9)).1]) st21) ++ HX)) (qm rfl (qq rfl (RD.sub rfl rfl) (qa rfl (n0 ?_)))))))
  have he26 : (IntKind.u64.wrap (((k : Nat) : Int) - 1)) = (((k - 1) : Nat) : Int) := (u64_pred hc11.1 (by omega))
  exact agS ((k - 1), (acc ++ [(idM (stO ys9 wr9)).1]), ys14, sv15, wr13, st21) ⟨(sevL_go hs hc11 hg18), hr16, (show ys14.length ≤ ys3.length by omega), (show (acc ++ [(idM (stO ys9 wr9)).1]).length + (k - 1) ≤ (getM 0 (numD most) (stO ys wr)).1 by simp only [List.length_append, List.length_cons, List.length_nil]; omega), hbo22, hX23⟩ (by dsimp only; omega) ⟨rfl, rfl, rfl, (congrArg (fun z => some (Value.int .u64 z)) he26), trivial⟩
 ·simp only [Bool.and_eq_false_iff, Bool.not_eq_false', decide_eq_false_iff_not] at hc11
  refine xt (sq (pl (qm rfl (qa rfl (n0 (rt ?_))))))
  have hg27 : (sevM idM most (stO ys wr)) = (acc, stO ys9 wr9) := (by rw [sevM, hg7]; exact sevL_end hs hc11)
  exact dS ((rd, .cells #[.pointer (some ⟨s2, 0, none⟩), .bool wr9] 211 (0, 0)) :: (s2, .cells #[sv9] 178 (0, 0)) :: ((bldMx 35 idC acc st7) ++ HX)) rfl rfl ⟨wr9, ys9, sv9, st7, hby9, (by omega), (by rw [hg27]), (by rw [hg27]; exact hbost7), (by rw [hg27]; rfl), (by rw [hg27])⟩ (ownC (.inr (by simp [keys])) (ownC (.inr (by simp [keys])) (ownA hXst7 (oC (oC hX1)))))
end Go.Proofs.YtcmnmigcalibdaaGreatDoor
