import Derived.Test.YtloljpefdecmhaaGreatDoorGav
namespace Go.Proofs.YtloljpefdecmhaaGreatDoor
open Go Go.Mv
set_option maxRecDepth 8000
def entM (o : Option (List UInt8)) : Ent × Option (List UInt8) := (⟨(textM o).1, (oneM (textM o).2).1, (idM (oneM (textM o).2).2).1⟩, (idM (oneM (textM o).2).2).2)

theorem c_entry (bt : Nat) (bc : Nat) (rd : Nat) (s2 : Nat) (sv : Value) (ys : List UInt8) (wr : Bool) (HX : Mem) (w : World) (hby : Rdb HX sv ys) (hly : ys.length ≤ 1000000) (hH : Hp ((bt, .cells #[.func (.func 66) #[] #[.pointer (some ⟨bc, 0, none⟩)]] 131 (0, 0)) :: (bc, .cells #[.pointer (some ⟨rd, 0, none⟩)] 124 (0, 0)) :: (rd, .cells #[.pointer (some ⟨s2, 0, none⟩), .bool wr] 128 (0, 0)) :: (s2, .cells #[sv] 180 (0, 0)) :: HX) w) : Calls Tryz.prog 70 #[.pointer (some ⟨bt, 0, none⟩), .pointer (some ⟨bc, 0, none⟩)] w (Ret w (keys ((rd, .cells #[.pointer (some ⟨s2, 0, none⟩), .bool wr] 128 (0, 0)) :: (s2, .cells #[sv] 180 (0, 0)) :: HX)) fun v H1 => ∃ wr' ys' sv', Rdb HX sv' ys' ∧ ys'.length ≤ ys.length ∧ (entM (stO ys wr)).2 = stO ys' wr' ∧ v = entV (entM (stO ys wr)).1 ∧ H1 = (rd, .cells #[.pointer (some ⟨s2, 0, none⟩), .bool wr'] 128 (0, 0)) :: (s2, .cells #[sv'] 180 (0, 0)) :: HX) := by
  refine fn_enter (args := [_, _]) Tryz.func70 rfl Tryz.ntmps70 rfl hH ?_
  refine pn_seq ?_
  refine pn_plain [] rfl ?_
  refine TE_allocC (entV (⟨⟨#[]⟩, 0, (fun _ => 0)⟩ : Ent)).cells rfl Tryz.zeroValue97 rfl trivial rfl fun b2 hb2 => ?_
  refine TE_nil0 ?_
  refine pn_seq ?_
  refine pn_plain [] rfl ?_
  refine TE_l rfl rfl trivial rfl (RD.load (i := 1) Tryz.isAgg131 rfl rfl rfl) rfl ?_
  refine TE_callM _ ((rd, .cells #[.pointer (some ⟨s2, 0, none⟩), .bool wr] 128 (0, 0)) :: (s2, .cells #[sv] 180 (0, 0)) :: HX) [(b2, .cells (entV (⟨⟨#[]⟩, 0, (fun _ => 0)⟩ : Ent)).cells 97 (0, 0)), (bt, .cells #[.func (.func 66) #[] #[.pointer (some ⟨bc, 0, none⟩)]] 131 (0, 0)), (bc, .cells #[.pointer (some ⟨rd, 0, none⟩)] 124 (0, 0))] ((bc, .cells #[.pointer (some ⟨rd, 0, none⟩)] 124 (0, 0)) :: (rd, .cells #[.pointer (some ⟨s2, 0, none⟩), .bool wr] 128 (0, 0)) :: (s2, .cells #[sv] 180 (0, 0)) :: HX) rfl rfl trivial Tryz.call66 rfl rfl rfl (ownC (.inr (by simp [keys])) (ownC (.inr (by simp [keys])) own_k2)) (fun a => by simp -failIfUnchanged <;> omega) (fun w hw => c_text bc rd s2 sv ys wr HX w (hby.mono (fun _ hw => hw.sp (fun a => by simp -failIfUnchanged <;> omega))) hly (hw.sp (fun a => by simp -failIfUnchanged <;> omega))) (fun a => by simp -failIfUnchanged <;> omega) ?_
  rintro v8 H9 ⟨wr2, ys3, sv4, hr5, hrl6, hg7, rfl, rfl⟩ hX1
  refine TE_sp ((rd, .cells #[.pointer (some ⟨s2, 0, none⟩), .bool wr2] 128 (0, 0)) :: (s2, .cells #[sv4] 180 (0, 0)) :: (b2, .cells (entV (⟨⟨#[]⟩, 0, (fun _ => 0)⟩ : Ent)).cells 97 (0, 0)) :: (bt, .cells #[.func (.func 66) #[] #[.pointer (some ⟨bc, 0, none⟩)]] 131 (0, 0)) :: (bc, .cells #[.pointer (some ⟨rd, 0, none⟩)] 124 (0, 0)) :: HX) (fun a => by simp -failIfUnchanged <;> omega) ?_
  refine TE_q rfl rfl (RD.assign rfl) rfl ?_
  refine TE_nil0 ?_
  refine pn_seq ?_
  refine pn_drawG [1, 3] ((rd, .cells #[.pointer (some ⟨s2, 0, none⟩), .bool wr2] 128 (0, 0)) :: (s2, .cells #[sv4] 180 (0, 0)) :: (b2, .cells (entV (⟨⟨#[]⟩, 0, (fun _ => 0)⟩ : Ent)).cells 97 (0, 0)) :: HX) [(bc, .cells #[.pointer (some ⟨rd, 0, none⟩)] 124 (0, 0))] rfl rfl (by kernel_rfl) (fun a => by simp -failIfUnchanged <;> omega) ?_
  refine TE_q rfl rfl (RD.move rfl) rfl ?_
  refine TE_q rfl rfl (RD.load (i := 0) Tryz.isAgg124 rfl rfl rfl) rfl ?_
  refine TE_callM _ ((rd, .cells #[.pointer (some ⟨s2, 0, none⟩), .bool wr2] 128 (0, 0)) :: (s2, .cells #[sv4] 180 (0, 0)) :: HX) [(b2, .cells (entV (⟨⟨#[]⟩, 0, (fun _ => 0)⟩ : Ent)).cells 97 (0, 0))] ((rd, .cells #[.pointer (some ⟨s2, 0, none⟩), .bool wr2] 128 (0, 0)) :: (s2, .cells #[sv4] 180 (0, 0)) :: HX) rfl rfl trivial Tryz.call65 rfl rfl rfl (ownC (.inr (by simp [keys])) (ownC (.inr (by simp [keys])) (fun e he => hX1 e (List.mem_cons_of_mem _ (List.mem_cons_of_mem _ he))))) (fun a => by simp -failIfUnchanged <;> omega) (fun w hw => c_rdOne rd s2 sv4 ys3 wr2 HX w (hr5.mono (fun _ hw => hw.sp (fun a => by simp -failIfUnchanged <;> omega))) (by first | assumption | omega | (simp; done) | (simp; omega)) (hw.sp (fun a => by simp -failIfUnchanged <;> omega))) (fun a => by simp -failIfUnchanged <;> omega) ?_
  rintro v17 H18 ⟨wr11, ys12, sv13, hr14, hrl15, hg16, rfl, rfl⟩ hX10
  refine TE_sp ((rd, .cells #[.pointer (some ⟨s2, 0, none⟩), .bool wr11] 128 (0, 0)) :: (s2, .cells #[sv13] 180 (0, 0)) :: (b2, .cells (entV (⟨⟨#[]⟩, 0, (fun _ => 0)⟩ : Ent)).cells 97 (0, 0)) :: HX) (fun a => by simp -failIfUnchanged <;> omega) ?_
  refine TE_q rfl rfl (RD.load (i := 0) Tryz.isAgg124 rfl rfl rfl) rfl ?_
  refine TE_callM _ ((rd, .cells #[.pointer (some ⟨s2, 0, none⟩), .bool wr11] 128 (0, 0)) :: (s2, .cells #[sv13] 180 (0, 0)) :: HX) [(b2, .cells (entV (⟨⟨#[]⟩, 0, (fun _ => 0)⟩ : Ent)).cells 97 (0, 0))] ((rd, .cells #[.pointer (some ⟨s2, 0, none⟩), .bool wr11] 128 (0, 0)) :: (s2, .cells #[sv13] 180 (0, 0)) :: HX) rfl rfl trivial Tryz.call71 rfl rfl rfl (ownC (.inr (by simp [keys])) (ownC (.inr (by simp [keys])) (fun e he => hX10 e (List.mem_cons_of_mem _ (List.mem_cons_of_mem _ he))))) (fun a => by simp -failIfUnchanged <;> omega) (fun w hw => c_rdId rd s2 sv13 ys12 wr11 HX w (hr14.mono (fun _ hw => hw.sp (fun a => by simp -failIfUnchanged <;> omega))) (by first | assumption | omega | (simp; done) | (simp; omega)) (hw.sp (fun a => by simp -failIfUnchanged <;> omega))) (fun a => by simp -failIfUnchanged <;> omega) ?_
  rintro v26 H27 ⟨wr20, ys21, sv22, hr23, hrl24, hg25, rfl, rfl⟩ hX19
  refine TE_sp ((rd, .cells #[.pointer (some ⟨s2, 0, none⟩), .bool wr20] 128 (0, 0)) :: (s2, .cells #[sv22] 180 (0, 0)) :: (b2, .cells (entV (⟨⟨#[]⟩, 0, (fun _ => 0)⟩ : Ent)).cells 97 (0, 0)) :: HX) (fun a => by simp -failIfUnchanged <;> omega) ?_
  refine TE_q rfl rfl (RD.build (v := entV (⟨(textM (stO ys wr)).1, (oneM (stO ys3 wr2)).1, (idM (stO ys12 wr11)).1⟩ : Ent)) rfl (fun w => by simp [Instr.build, Tryz.zeroValue97, Tryz.runUnderlying97, Tryz.sizeOf36, Tryz.sizeOf3, Tryz.sizeOf9, Value.cells, Instr.fill, entV, idV])) rfl ?_
  refine TE_putCW 2 (entV (⟨⟨#[]⟩, 0, (fun _ => 0)⟩ : Ent)).cells (entV (⟨(textM (stO ys wr)).1, (oneM (stO ys3 wr2)).1, (idM (stO ys12 wr11)).1⟩ : Ent)).cells ((rd, .cells #[.pointer (some ⟨s2, 0, none⟩), .bool wr20] 128 (0, 0)) :: (s2, .cells #[sv22] 180 (0, 0)) :: (b2, .cells (entV (⟨(textM (stO ys wr)).1, (oneM (stO ys3 wr2)).1, (idM (stO ys12 wr11)).1⟩ : Ent)).cells 97 (0, 0)) :: HX) rfl Tryz.sizeOf97 trivial rfl rfl rfl rfl rfl rfl rfl rfl (.inl hb2) ?_
  refine TE_nil ?_
  refine pn_ret ?_
  refine pn_sp ((rd, .cells #[.pointer (some ⟨s2, 0, none⟩), .bool wr20] 128 (0, 0)) :: (s2, .cells #[sv22] 180 (0, 0)) :: (b2, .cells (entV (⟨(textM (stO ys wr)).1, (oneM (stO ys3 wr2)).1, (idM (stO ys12 wr11)).1⟩ : Ent)).cells 97 (0, 0)) :: (bc, .cells #[.pointer (some ⟨rd, 0, none⟩)] 124 (0, 0)) :: HX) (fun a => by simp -failIfUnchanged <;> omega) ?_
  exact pn_doneF rfl ⟨entV (⟨(textM (stO ys wr)).1, (oneM (stO ys3 wr2)).1, (idM (stO ys12 wr11)).1⟩ : Ent), _, b2, 0, rfl, rfl, load_agg (i := 2) Tryz.isAgg97 Tryz.sizeOf97 rfl (Nat.le_of_ble_eq_true rfl) (ent_all _), rfl⟩ ⟨wr20, ys21, sv22, hr23, (by omega), (by simp only [entM, hg7, hg16]; exact hg25), (by first | (simp only [entM, hg7, hg16]; done) | (simp only [entM, hg7, hg16]; rfl)), rfl⟩ (fun _ h => h.sp (fun a => by simp -failIfUnchanged <;> omega)) (fun e he => Or.symm ((ownC (.inr (by simp [keys])) (ownC (.inr (by simp [keys])) (fun e he => hX19 e (List.mem_cons_of_mem _ (List.mem_cons_of_mem _ he))))) e he))

end Go.Proofs.YtloljpefdecmhaaGreatDoor

namespace Go.Proofs.YtloljpefdecmhaaGreatDoor
open Go Go.Mv
set_option maxRecDepth 8000
def sevL {α : Type} (f : Option (List UInt8) → α × Option (List UInt8)) : Nat → Option (List UInt8) → List α × Option (List UInt8)
  | 0, o => ([], o)
  | _ + 1, none => ([], none)
  | n + 1, some ys => ((f (some ys)).1 :: (sevL f n (f (some ys)).2).1, (sevL f n (f (some ys)).2).2)
def sevM {α : Type} (f : Option (List UInt8) → α × Option (List UInt8)) (most : Nat) (o : Option (List UInt8)) : List α × Option (List UInt8) := sevL f (getM 0 (numD most) o).1 (getM 0 (numD most) o).2
section
variable {α : Type} {f : Option (List UInt8) → α × Option (List UInt8)}
theorem sevL_stop {k : Nat} {ys : List UInt8} {wr : Bool} (h : ¬ 0 < (k : Int) ∨ wr = true) : sevL f k (stO ys wr) = ([], stO ys wr) := by
  rcases h with h | h
  · obtain rfl : k = 0 := by omega
    rfl
  · subst h
    cases k <;> rfl
theorem sevL_end {n k : Nat} {o : Option (List UInt8)} {acc : List α} {ys : List UInt8} {wr : Bool} (hs : sevL f n o = (acc ++ (sevL f k (stO ys wr)).1, (sevL f k (stO ys wr)).2)) (h : ¬ 0 < (k : Int) ∨ wr = true) : sevL f n o = (acc, stO ys wr) := by
  rw [hs, sevL_stop h]; simp
theorem sevL_go {n k : Nat} {o : Option (List UInt8)} {acc : List α} {ys ys' : List UInt8} {wr wr' : Bool} (hs : sevL f n o = (acc ++ (sevL f k (stO ys wr)).1, (sevL f k (stO ys wr)).2)) (h : 0 < (k : Int) ∧ wr = false) (hg : (f (stO ys wr)).2 = stO ys' wr') : sevL f n o = ((acc ++ [(f (stO ys wr)).1]) ++ (sevL f (k - 1) (stO ys' wr')).1, (sevL f (k - 1) (stO ys' wr')).2) := by
  obtain ⟨hk, rfl⟩ := h
  obtain ⟨m, rfl⟩ : ∃ m, k = m + 1 := ⟨k - 1, by omega⟩
  have e : sevL f (m + 1) (stO ys false) = ((f (stO ys false)).1 :: (sevL f m (f (stO ys false)).2).1, (sevL f m (f (stO ys false)).2).2) := rfl
  rw [hs, e, hg]
  simp
end
theorem numD_le {most n : Nat} {ys r : List UInt8} (h : numD most ys = .ok n r) : n ≤ most := by
  unfold numD at h
  split at h
  · cases h
  · cases h
  · split at h
    · cases h
    · cases h; omega
theorem getNum_le {most : Nat} {o : Option (List UInt8)} : (getM 0 (numD most) o).1 ≤ most := by
  cases o with
  | none => exact Nat.zero_le _
  | some ys =>
    simp only [getM]
    split
    · rename_i h; exact numD_le h
    · exact Nat.zero_le _
theorem u64_pred {k : Nat} (h : 0 < (k : Int)) (hk : k ≤ 1000000) : IntKind.u64.wrap ((k : Int) - 1) = ((k - 1 : Nat) : Int) := by
  rw [u64_wrap, Int.emod_eq_of_lt (by omega) (by omega)]; omega

theorem c_sevE (rd : Nat) (s2 : Nat) (sv : Value) (ys : List UInt8) (wr : Bool) (most : Nat) (bt : Nat) (bc : Nat) (HX : Mem) (w : World) (hby : Rdb HX sv ys) (hly : ys.length ≤ 1000000) (hmost : most ≤ 1000) (hH : Hp ((rd, .cells #[.pointer (some ⟨s2, 0, none⟩), .bool wr] 128 (0, 0)) :: (s2, .cells #[sv] 180 (0, 0)) :: (bt, .cells #[.func (.func 66) #[] #[.pointer (some ⟨bc, 0, none⟩)]] 131 (0, 0)) :: (bc, .cells #[.pointer (some ⟨rd, 0, none⟩)] 124 (0, 0)) :: HX) w) : Calls Tryz.prog 69 #[.pointer (some ⟨rd, 0, none⟩), .int .u64 (most : Int), .func (.func 70) #[] #[.pointer (some ⟨bt, 0, none⟩), .pointer (some ⟨bc, 0, none⟩)]] w (Ret w (keys ((rd, .cells #[.pointer (some ⟨s2, 0, none⟩), .bool wr] 128 (0, 0)) :: (s2, .cells #[sv] 180 (0, 0)) :: HX)) fun v H1 => ∃ wr' ys' sv' st', Rdb HX sv' ys' ∧ ys'.length ≤ ys.length ∧ (sevM entM most (stO ys wr)).2 = stO ys' wr' ∧ BldOk 34 (entC) (sevM entM most (stO ys wr)).1 st' ∧ v = bldVx (sevM entM most (stO ys wr)).1 st' ∧ H1 = (rd, .cells #[.pointer (some ⟨s2, 0, none⟩), .bool wr'] 128 (0, 0)) :: (s2, .cells #[sv'] 180 (0, 0)) :: (bldMx 97 (entC) (sevM entM most (stO ys wr)).1 st' ++ HX)) := by
  refine fn_enter (args := [_, _, _]) Tryz.func69 rfl Tryz.ntmps69 rfl hH ?_
  refine pn_seq ?_
  refine pn_plain [] rfl ?_
  refine TE_q rfl rfl (RD.assign rfl) rfl ?_
  refine TE_nil0 ?_
  refine pn_seq ?_
  refine pn_plain [] rfl ?_
  refine TE_q rfl rfl (RD.assign rfl) rfl ?_
  refine TE_nil0 ?_
  refine pn_seq ?_
  refine pn_seq ?_
  refine pn_plain [] rfl ?_
  refine TE_q rfl rfl (RD.move rfl) rfl ?_
  refine TE_q rfl rfl (RD.move rfl) rfl ?_
  refine TE_q rfl rfl (RD.nilCheckP rfl) rfl ?_
  refine TE_q rfl rfl (RD.fieldAddr (o := 0) Tryz.runUnderlying128 rfl rfl Tryz.sizeOf125 rfl) rfl ?_
  refine TE_l rfl rfl trivial rfl (RD.load (i := 0) Tryz.isAgg125 rfl rfl rfl) rfl ?_
  refine TE_q rfl rfl (RD.makeFunc rfl rfl) rfl ?_
  refine TE_q rfl rfl (RD.move rfl) rfl ?_
  refine TE_callM _ ((rd, .cells #[.pointer (some ⟨s2, 0, none⟩), .bool wr] 128 (0, 0)) :: (s2, .cells #[sv] 180 (0, 0)) :: HX) [(bt, .cells #[.func (.func 66) #[] #[.pointer (some ⟨bc, 0, none⟩)]] 131 (0, 0)), (bc, .cells #[.pointer (some ⟨rd, 0, none⟩)] 124 (0, 0))] ((rd, .cells #[.pointer (some ⟨s2, 0, none⟩), .bool wr] 128 (0, 0)) :: (s2, .cells #[sv] 180 (0, 0)) :: HX) rfl rfl trivial Tryz.call113 rfl rfl rfl (ownC (.inr (by simp [keys])) (ownC (.inr (by simp [keys])) own_k2)) (fun a => by simp -failIfUnchanged <;> omega) (fun w hw => c_getNum rd s2 sv ys wr most HX w (hby.mono (fun _ hw => hw.sp (fun a => by simp -failIfUnchanged <;> omega))) hly (by first | assumption | omega | (simp; done) | (simp; omega)) (hw.sp (fun a => by simp -failIfUnchanged <;> omega))) (fun a => by simp -failIfUnchanged <;> omega) ?_
  rintro v8 H9 ⟨wr2, ys3, sv4, hr5, hrl6, hg7, rfl, rfl⟩ hX1
  refine TE_sp ((rd, .cells #[.pointer (some ⟨s2, 0, none⟩), .bool wr2] 128 (0, 0)) :: (s2, .cells #[sv4] 180 (0, 0)) :: (bt, .cells #[.func (.func 66) #[] #[.pointer (some ⟨bc, 0, none⟩)]] 131 (0, 0)) :: (bc, .cells #[.pointer (some ⟨rd, 0, none⟩)] 124 (0, 0)) :: HX) (fun a => by simp -failIfUnchanged <;> omega) ?_
  refine TE_q rfl rfl (RD.assign rfl) rfl ?_
  refine TE_nil0 ?_
  refine pn_block ?_
  have hnle := getNum_le (most := most) (o := stO ys wr)
  refine pn_loopS (σ := Nat × (List Ent) × (List UInt8) × Value × Bool × SnkS) (fun q => [(0, .pointer (some ⟨rd, 0, none⟩)), (2, .func (.func 70) #[] #[.pointer (some ⟨bt, 0, none⟩), .pointer (some ⟨bc, 0, none⟩)]), (7, bldVx q.2.1 q.2.2.2.2.2), (8, .int .u64 ((q.1 : Nat) : Int))]) (fun q => ((rd, .cells #[.pointer (some ⟨s2, 0, none⟩), .bool q.2.2.2.2.1] 128 (0, 0)) :: (s2, .cells #[q.2.2.2.1] 180 (0, 0)) :: (bt, .cells #[.func (.func 66) #[] #[.pointer (some ⟨bc, 0, none⟩)]] 131 (0, 0)) :: (bc, .cells #[.pointer (some ⟨rd, 0, none⟩)] 124 (0, 0)) :: ((bldMx 97 (entC) q.2.1 q.2.2.2.2.2) ++ HX))) (fun q => (sevL entM (getM 0 (numD most) (stO ys wr)).1 (stO ys3 wr2) = (q.2.1 ++ (sevL entM q.1 (stO q.2.2.1 q.2.2.2.2.1)).1, (sevL entM q.1 (stO q.2.2.1 q.2.2.2.2.1)).2)) ∧ (Rdb HX q.2.2.2.1 q.2.2.1) ∧ (q.2.2.1.length ≤ ys3.length) ∧ (q.2.1.length + q.1 ≤ (getM 0 (numD most) (stO ys wr)).1) ∧ (BldOk 34 (entC) q.2.1 q.2.2.2.2.2) ∧ (∀ e ∈ bldMx 97 (entC) q.2.1 q.2.2.2.2.2, w.heap.size ≤ e.1 ∨ e.1 ∈ (keys ((rd, .cells #[.pointer (some ⟨s2, 0, none⟩), .bool wr] 128 (0, 0)) :: (s2, .cells #[sv] 180 (0, 0)) :: HX)))) (fun q => q.1) ((getM 0 (numD most) (stO ys wr)).1, [], ys3, sv4, wr2, none) ⟨rfl, hr5, (Nat.le_refl _), (by simp), BldOk.nil, (by intro e he; cases he)⟩ ⟨rfl, rfl, rfl, rfl, trivial⟩ (fun a => by simp -failIfUnchanged <;> omega) ?_
  rintro ⟨k, acc, ys9, sv9, wr9, st7⟩ ⟨hs, hby9, hl9, hk9, hbost7, hXst7⟩
  dsimp only at hs hby9 hl9 hk9 hbost7 hXst7 ⊢
  have hRst7 : Rdx 34 (entC) (bldMx 97 (entC) acc st7) (bldVx acc st7) acc := hbost7.rdx (u := 97) entC_len
  refine pn_seq ?_
  refine pn_seq ?_
  refine pn_plain [] rfl ?_
  refine TE_q rfl rfl (RD.move rfl) rfl ?_
  refine TE_q rfl rfl (RD.gtr rfl rfl) rfl ?_
  refine TE_q rfl rfl (RD.move rfl) rfl ?_
  refine TE_join (σ := Unit) (fun _ => [(0, .pointer (some ⟨rd, 0, none⟩)), (2, .func (.func 70) #[] #[.pointer (some ⟨bt, 0, none⟩), .pointer (some ⟨bc, 0, none⟩)]), (7, bldVx acc st7), (8, .int .u64 ((k : Nat) : Int)), (25, .bool ((decide (0 < ((k : Nat) : Int))) && (!wr9)))]) (fun _ => ((rd, .cells #[.pointer (some ⟨s2, 0, none⟩), .bool wr9] 128 (0, 0)) :: (s2, .cells #[sv9] 180 (0, 0)) :: (bt, .cells #[.func (.func 66) #[] #[.pointer (some ⟨bc, 0, none⟩)]] 131 (0, 0)) :: (bc, .cells #[.pointer (some ⟨rd, 0, none⟩)] 124 (0, 0)) :: ((bldMx 97 (entC) acc st7) ++ HX))) (fun _ => True) ?_ ?_
  · refine TE_dec (fun hf10 => ?_) (fun hf10 => ?_)
    · refine TE_gq rfl rfl rfl rfl (RD.move rfl) rfl ?_
      refine TE_gq rfl rfl rfl rfl (RD.nilCheckP rfl) rfl ?_
      refine TE_gq rfl rfl rfl rfl (RD.fieldAddr (o := 1) Tryz.runUnderlying128 rfl rfl Tryz.sizeOf4 rfl) rfl ?_
      refine TE_l rfl rfl ⟨_, rfl, rfl⟩ rfl (RD.load (i := 0) Tryz.isAgg4 rfl rfl rfl) rfl ?_
      refine TE_gq rfl rfl rfl rfl (RD.not rfl) rfl ?_
      refine TE_q rfl rfl (RD.pickT rfl rfl) rfl ?_
      refine TE_nil0 ?_
      exact pn_give () trivial ⟨rfl, rfl, rfl, rfl, congrArg (fun b => some (Value.bool b)) (by first | (simp [hf10]; done) | (simp only [decide_eq_true hf10]; rfl) | (simp only [decide_eq_true hf10]; simp; done)), trivial⟩ (fun _ hw => hw.sp (fun a => by simp -failIfUnchanged <;> omega))
    · refine TE_s rfl rfl rfl rfl rfl ?_
      refine TE_s rfl rfl rfl rfl rfl ?_
      refine TE_s rfl rfl rfl rfl rfl ?_
      refine TE_s rfl rfl rfl rfl rfl ?_
      refine TE_s rfl rfl rfl rfl rfl ?_
      refine TE_q rfl rfl (RD.pickF rfl rfl) rfl ?_
      refine TE_nil0 ?_
      exact pn_give () trivial ⟨rfl, rfl, rfl, rfl, congrArg (fun b => some (Value.bool b)) (by first | (simp [hf10]; done) | (simp only [decide_eq_false hf10]; rfl) | (simp only [decide_eq_false hf10]; simp; done)), trivial⟩ (fun _ hw => hw.sp (fun a => by simp -failIfUnchanged <;> omega))
  rintro _ -
  refine pn_cond rfl (fun hc11 => ?_) (fun hc11 => ?_)
  · simp only [Bool.and_eq_true, Bool.not_eq_true', decide_eq_true_eq] at hc11
    refine pn_skip ?_
    refine pn_seq ?_
    refine pn_block ?_
    refine pn_plain [] rfl ?_
    refine TE_q rfl rfl (RD.move rfl) rfl ?_
    refine TE_q rfl rfl (RD.move rfl) rfl ?_
    refine TE_callM _ ((rd, .cells #[.pointer (some ⟨s2, 0, none⟩), .bool wr9] 128 (0, 0)) :: (s2, .cells #[sv9] 180 (0, 0)) :: HX) ((bt, .cells #[.func (.func 66) #[] #[.pointer (some ⟨bc, 0, none⟩)]] 131 (0, 0)) :: (bc, .cells #[.pointer (some ⟨rd, 0, none⟩)] 124 (0, 0)) :: (bldMx 97 (entC) acc st7)) ((rd, .cells #[.pointer (some ⟨s2, 0, none⟩), .bool wr9] 128 (0, 0)) :: (s2, .cells #[sv9] 180 (0, 0)) :: (bt, .cells #[.func (.func 66) #[] #[.pointer (some ⟨bc, 0, none⟩)]] 131 (0, 0)) :: (bc, .cells #[.pointer (some ⟨rd, 0, none⟩)] 124 (0, 0)) :: HX) rfl rfl trivial Tryz.call70 rfl rfl rfl (ownC (.inr (by simp [keys])) (ownC (.inr (by simp [keys])) (fun e he => hX1 e (List.mem_cons_of_mem _ (List.mem_cons_of_mem _ he))))) (fun a => by simp -failIfUnchanged <;> omega) (fun w hw => c_entry bt bc rd s2 sv9 ys9 wr9 HX w (hby9.mono (fun _ hw => hw.sp (fun a => by simp -failIfUnchanged <;> omega))) (by first | assumption | omega | (simp; done) | (simp; omega)) (hw.sp (fun a => by simp -failIfUnchanged <;> omega))) (fun a => by simp -failIfUnchanged <;> omega) ?_
    rintro v19 H20 ⟨wr13, ys14, sv15, hr16, hrl17, hg18, rfl, rfl⟩ hX12
    refine TE_sp ((rd, .cells #[.pointer (some ⟨s2, 0, none⟩), .bool wr13] 128 (0, 0)) :: (s2, .cells #[sv15] 180 (0, 0)) :: (bt, .cells #[.func (.func 66) #[] #[.pointer (some ⟨bc, 0, none⟩)]] 131 (0, 0)) :: (bc, .cells #[.pointer (some ⟨rd, 0, none⟩)] 124 (0, 0)) :: (HX ++ (bldMx 97 (entC) acc st7))) (fun a => by simp -failIfUnchanged <;> omega) ?_
    refine TE_buildSlice (cells := (cat entC [(entM (stO ys9 wr9)).1] ++ []).toArray) rfl Tryz.runUnderlying43 Tryz.sizeOf97 Tryz.zeroValue97 rfl rfl rfl (by kernel_rfl) trivial rfl fun b31 hb31 => ?_
    refine TE_sp ((bldMx 97 (entC) acc st7) ++ ((b31, .cells (cat entC [(entM (stO ys9 wr9)).1] ++ []).toArray 97 (0, 0)) :: (rd, .cells #[.pointer (some ⟨s2, 0, none⟩), .bool wr13] 128 (0, 0)) :: (s2, .cells #[sv15] 180 (0, 0)) :: (bt, .cells #[.func (.func 66) #[] #[.pointer (some ⟨bc, 0, none⟩)]] 131 (0, 0)) :: (bc, .cells #[.pointer (some ⟨rd, 0, none⟩)] 124 (0, 0)) :: HX)) (fun a => by simp -failIfUnchanged <;> omega) ?_
    refine TE_appendX (st := st7) (l := acc) (ys := [(entM (stO ys9 wr9)).1]) ((b31, .cells (cat entC [(entM (stO ys9 wr9)).1] ++ []).toArray 97 (0, 0)) :: (rd, .cells #[.pointer (some ⟨s2, 0, none⟩), .bool wr13] 128 (0, 0)) :: (s2, .cells #[sv15] 180 (0, 0)) :: (bt, .cells #[.func (.func 66) #[] #[.pointer (some ⟨bc, 0, none⟩)]] 131 (0, 0)) :: (bc, .cells #[.pointer (some ⟨rd, 0, none⟩)] 124 (0, 0)) :: HX) entC_len entC_one rfl rfl rfl rfl trivial rfl Tryz.underlying43 el_ent rfl rfl rfl hbost7 (Rdx.blk (enc := entC) (H := [(b31, .cells (cat entC [(entM (stO ys9 wr9)).1] ++ []).toArray 97 (0, 0))]) (xs := [(entM (stO ys9 wr9)).1]) (n := 1) (i := 0) (tl := []) (c := 1) entC_len rfl rfl (Nat.le_refl _)) (fun _ hw => hw.sp (fun a => by simp -failIfUnchanged <;> omega)) (by simp; omega) rfl hXst7 ?_
    intro st21 hbo22 hX23 _
    have hR25 : Rdx 34 (entC) (bldMx 97 (entC) (acc ++ [(entM (stO ys9 wr9)).1]) st21) (bldVx (acc ++ [(entM (stO ys9 wr9)).1]) st21) (acc ++ [(entM (stO ys9 wr9)).1]) := hbo22.rdx (u := 97) entC_len
    refine TE_sp ((b31, .cells (cat entC [(entM (stO ys9 wr9)).1] ++ []).toArray 97 (0, 0)) :: (rd, .cells #[.pointer (some ⟨s2, 0, none⟩), .bool wr13] 128 (0, 0)) :: (s2, .cells #[sv15] 180 (0, 0)) :: (bt, .cells #[.func (.func 66) #[] #[.pointer (some ⟨bc, 0, none⟩)]] 131 (0, 0)) :: (bc, .cells #[.pointer (some ⟨rd, 0, none⟩)] 124 (0, 0)) :: ((bldMx 97 (entC) (acc ++ [(entM (stO ys9 wr9)).1]) st21) ++ HX)) (fun a => by simp -failIfUnchanged <;> omega) ?_
    refine TE_q rfl rfl (RD.assign rfl) rfl ?_
    refine TE_nil0 ?_
    refine pn_plainG [] ((rd, .cells #[.pointer (some ⟨s2, 0, none⟩), .bool wr13] 128 (0, 0)) :: (s2, .cells #[sv15] 180 (0, 0)) :: (bt, .cells #[.func (.func 66) #[] #[.pointer (some ⟨bc, 0, none⟩)]] 131 (0, 0)) :: (bc, .cells #[.pointer (some ⟨rd, 0, none⟩)] 124 (0, 0)) :: ((bldMx 97 (entC) (acc ++ [(entM (stO ys9 wr9)).1]) st21) ++ HX)) rfl (fun a => by simp -failIfUnchanged <;> omega) ?_
    refine TE_q rfl rfl (RD.move rfl) rfl ?_
    refine TE_q rfl rfl (RD.sub rfl rfl) rfl ?_
    refine TE_q rfl rfl (RD.assign rfl) rfl ?_
    refine TE_nil0 ?_
    have he26 : (IntKind.u64.wrap (((k : Nat) : Int) - 1)) = (((k - 1) : Nat) : Int) := (u64_pred hc11.1 (by omega))
    exact pn_againS ((k - 1), (acc ++ [(entM (stO ys9 wr9)).1]), ys14, sv15, wr13, st21) ⟨(sevL_go hs hc11 hg18), hr16, (show ys14.length ≤ ys3.length by omega), (show (acc ++ [(entM (stO ys9 wr9)).1]).length + (k - 1) ≤ (getM 0 (numD most) (stO ys wr)).1 by simp only [List.length_append, List.length_cons, List.length_nil]; omega), hbo22, hX23⟩ (by dsimp only; omega) ⟨rfl, rfl, rfl, (congrArg (fun z => some (Value.int .u64 z)) he26), trivial⟩ (fun a => by simp -failIfUnchanged <;> omega)
  · simp only [Bool.and_eq_false_iff, Bool.not_eq_false', decide_eq_false_iff_not] at hc11
    refine pn_exit ?_
    refine pn_seq ?_
    refine pn_plain [] rfl ?_
    refine TE_q rfl rfl (RD.move rfl) rfl ?_
    refine TE_q rfl rfl (RD.assign rfl) rfl ?_
    refine TE_nil0 ?_
    refine pn_ret ?_
    have hg27 : (sevM entM most (stO ys wr)) = (acc, stO ys9 wr9) := (by rw [sevM, hg7]; exact sevL_end hs hc11)
    exact pn_doneS ((rd, .cells #[.pointer (some ⟨s2, 0, none⟩), .bool wr9] 128 (0, 0)) :: (s2, .cells #[sv9] 180 (0, 0)) :: ((bldMx 97 (entC) acc st7) ++ HX)) rfl rfl ⟨wr9, ys9, sv9, st7, hby9, (by omega), (by rw [hg27]), (by rw [hg27]; exact hbost7), (by rw [hg27]; rfl), (by rw [hg27])⟩ (fun a => by simp -failIfUnchanged <;> omega) (ownC (.inr (by simp [keys])) (ownC (.inr (by simp [keys])) (ownA hXst7 (fun e he => hX1 e (List.mem_cons_of_mem _ (List.mem_cons_of_mem _ he))))))

theorem c_sevI (rd : Nat) (s2 : Nat) (sv : Value) (ys : List UInt8) (wr : Bool) (most : Nat) (HX : Mem) (w : World) (hby : Rdb HX sv ys) (hly : ys.length ≤ 1000000) (hmost : most ≤ 1000) (hH : Hp ((rd, .cells #[.pointer (some ⟨s2, 0, none⟩), .bool wr] 128 (0, 0)) :: (s2, .cells #[sv] 180 (0, 0)) :: HX) w) : Calls Tryz.prog 72 #[.pointer (some ⟨rd, 0, none⟩), .int .u64 (most : Int), .func (.func 71) #[.pointer (some ⟨rd, 0, none⟩)] #[]] w (Ret w (keys ((rd, .cells #[.pointer (some ⟨s2, 0, none⟩), .bool wr] 128 (0, 0)) :: (s2, .cells #[sv] 180 (0, 0)) :: HX)) fun v H1 => ∃ wr' ys' sv' st', Rdb HX sv' ys' ∧ ys'.length ≤ ys.length ∧ (sevM idM most (stO ys wr)).2 = stO ys' wr' ∧ BldOk 32 (idC) (sevM idM most (stO ys wr)).1 st' ∧ v = bldVx (sevM idM most (stO ys wr)).1 st' ∧ H1 = (rd, .cells #[.pointer (some ⟨s2, 0, none⟩), .bool wr'] 128 (0, 0)) :: (s2, .cells #[sv'] 180 (0, 0)) :: (bldMx 36 (idC) (sevM idM most (stO ys wr)).1 st' ++ HX)) := by
  refine fn_enter (args := [_, _, _]) Tryz.func72 rfl Tryz.ntmps72 rfl hH ?_
  refine pn_seq ?_
  refine pn_plain [] rfl ?_
  refine TE_q rfl rfl (RD.assign rfl) rfl ?_
  refine TE_nil0 ?_
  refine pn_seq ?_
  refine pn_plain [] rfl ?_
  refine TE_q rfl rfl (RD.assign rfl) rfl ?_
  refine TE_nil0 ?_
  refine pn_seq ?_
  refine pn_seq ?_
  refine pn_plain [] rfl ?_
  refine TE_q rfl rfl (RD.move rfl) rfl ?_
  refine TE_q rfl rfl (RD.move rfl) rfl ?_
  refine TE_q rfl rfl (RD.nilCheckP rfl) rfl ?_
  refine TE_q rfl rfl (RD.fieldAddr (o := 0) Tryz.runUnderlying128 rfl rfl Tryz.sizeOf125 rfl) rfl ?_
  refine TE_l rfl rfl trivial rfl (RD.load (i := 0) Tryz.isAgg125 rfl rfl rfl) rfl ?_
  refine TE_q rfl rfl (RD.makeFunc rfl rfl) rfl ?_
  refine TE_q rfl rfl (RD.move rfl) rfl ?_
  refine TE_callM _ ((rd, .cells #[.pointer (some ⟨s2, 0, none⟩), .bool wr] 128 (0, 0)) :: (s2, .cells #[sv] 180 (0, 0)) :: HX) [] ((rd, .cells #[.pointer (some ⟨s2, 0, none⟩), .bool wr] 128 (0, 0)) :: (s2, .cells #[sv] 180 (0, 0)) :: HX) rfl rfl trivial Tryz.call113 rfl rfl rfl (ownC (.inr (by simp [keys])) (ownC (.inr (by simp [keys])) own_k2)) (fun a => by simp -failIfUnchanged <;> omega) (fun w hw => c_getNum rd s2 sv ys wr most HX w (hby.mono (fun _ hw => hw.sp (fun a => by simp -failIfUnchanged <;> omega))) hly (by first | assumption | omega | (simp; done) | (simp; omega)) (hw.sp (fun a => by simp -failIfUnchanged <;> omega))) (fun a => by simp -failIfUnchanged <;> omega) ?_
  rintro v8 H9 ⟨wr2, ys3, sv4, hr5, hrl6, hg7, rfl, rfl⟩ hX1
  refine TE_sp ((rd, .cells #[.pointer (some ⟨s2, 0, none⟩), .bool wr2] 128 (0, 0)) :: (s2, .cells #[sv4] 180 (0, 0)) :: HX) (fun a => by simp -failIfUnchanged <;> omega) ?_
  refine TE_q rfl rfl (RD.assign rfl) rfl ?_
  refine TE_nil0 ?_
  refine pn_block ?_
  have hnle := getNum_le (most := most) (o := stO ys wr)
  refine pn_loopS (σ := Nat × (List (Nat → Int)) × (List UInt8) × Value × Bool × SnkS) (fun q => [(0, .pointer (some ⟨rd, 0, none⟩)), (2, .func (.func 71) #[.pointer (some ⟨rd, 0, none⟩)] #[]), (7, bldVx q.2.1 q.2.2.2.2.2), (8, .int .u64 ((q.1 : Nat) : Int))]) (fun q => ((rd, .cells #[.pointer (some ⟨s2, 0, none⟩), .bool q.2.2.2.2.1] 128 (0, 0)) :: (s2, .cells #[q.2.2.2.1] 180 (0, 0)) :: ((bldMx 36 (idC) q.2.1 q.2.2.2.2.2) ++ HX))) (fun q => (sevL idM (getM 0 (numD most) (stO ys wr)).1 (stO ys3 wr2) = (q.2.1 ++ (sevL idM q.1 (stO q.2.2.1 q.2.2.2.2.1)).1, (sevL idM q.1 (stO q.2.2.1 q.2.2.2.2.1)).2)) ∧ (Rdb HX q.2.2.2.1 q.2.2.1) ∧ (q.2.2.1.length ≤ ys3.length) ∧ (q.2.1.length + q.1 ≤ (getM 0 (numD most) (stO ys wr)).1) ∧ (BldOk 32 (idC) q.2.1 q.2.2.2.2.2) ∧ (∀ e ∈ bldMx 36 (idC) q.2.1 q.2.2.2.2.2, w.heap.size ≤ e.1 ∨ e.1 ∈ (keys ((rd, .cells #[.pointer (some ⟨s2, 0, none⟩), .bool wr] 128 (0, 0)) :: (s2, .cells #[sv] 180 (0, 0)) :: HX)))) (fun q => q.1) ((getM 0 (numD most) (stO ys wr)).1, [], ys3, sv4, wr2, none) ⟨rfl, hr5, (Nat.le_refl _), (by simp), BldOk.nil, (by intro e he; cases he)⟩ ⟨rfl, rfl, rfl, rfl, trivial⟩ (fun a => by simp -failIfUnchanged <;> omega) ?_
  rintro ⟨k, acc, ys9, sv9, wr9, st7⟩ ⟨hs, hby9, hl9, hk9, hbost7, hXst7⟩
  dsimp only at hs hby9 hl9 hk9 hbost7 hXst7 ⊢
  have hRst7 : Rdx 32 (idC) (bldMx 36 (idC) acc st7) (bldVx acc st7) acc := hbost7.rdx (u := 36) idC_len
  refine pn_seq ?_
  refine pn_seq ?_
  refine pn_plain [] rfl ?_
  refine TE_q rfl rfl (RD.move rfl) rfl ?_
  refine TE_q rfl rfl (RD.gtr rfl rfl) rfl ?_
  refine TE_q rfl rfl (RD.move rfl) rfl ?_
  refine TE_join (σ := Unit) (fun _ => [(0, .pointer (some ⟨rd, 0, none⟩)), (2, .func (.func 71) #[.pointer (some ⟨rd, 0, none⟩)] #[]), (7, bldVx acc st7), (8, .int .u64 ((k : Nat) : Int)), (25, .bool ((decide (0 < ((k : Nat) : Int))) && (!wr9)))]) (fun _ => ((rd, .cells #[.pointer (some ⟨s2, 0, none⟩), .bool wr9] 128 (0, 0)) :: (s2, .cells #[sv9] 180 (0, 0)) :: ((bldMx 36 (idC) acc st7) ++ HX))) (fun _ => True) ?_ ?_
  · refine TE_dec (fun hf10 => ?_) (fun hf10 => ?_)
    · refine TE_gq rfl rfl rfl rfl (RD.move rfl) rfl ?_
      refine TE_gq rfl rfl rfl rfl (RD.nilCheckP rfl) rfl ?_
      refine TE_gq rfl rfl rfl rfl (RD.fieldAddr (o := 1) Tryz.runUnderlying128 rfl rfl Tryz.sizeOf4 rfl) rfl ?_
      refine TE_l rfl rfl ⟨_, rfl, rfl⟩ rfl (RD.load (i := 0) Tryz.isAgg4 rfl rfl rfl) rfl ?_
      refine TE_gq rfl rfl rfl rfl (RD.not rfl) rfl ?_
      refine TE_q rfl rfl (RD.pickT rfl rfl) rfl ?_
      refine TE_nil0 ?_
      exact pn_give () trivial ⟨rfl, rfl, rfl, rfl, congrArg (fun b => some (Value.bool b)) (by first | (simp [hf10]; done) | (simp only [decide_eq_true hf10]; rfl) | (simp only [decide_eq_true hf10]; simp; done)), trivial⟩ (fun _ hw => hw.sp (fun a => by simp -failIfUnchanged <;> omega))
    · refine TE_s rfl rfl rfl rfl rfl ?_
      refine TE_s rfl rfl rfl rfl rfl ?_
      refine TE_s rfl rfl rfl rfl rfl ?_
      refine TE_s rfl rfl rfl rfl rfl ?_
      refine TE_s rfl rfl rfl rfl rfl ?_
      refine TE_q rfl rfl (RD.pickF rfl rfl) rfl ?_
      refine TE_nil0 ?_
      exact pn_give () trivial ⟨rfl, rfl, rfl, rfl, congrArg (fun b => some (Value.bool b)) (by first | (simp [hf10]; done) | (simp only [decide_eq_false hf10]; rfl) | (simp only [decide_eq_false hf10]; simp; done)), trivial⟩ (fun _ hw => hw.sp (fun a => by simp -failIfUnchanged <;> omega))
  rintro _ -
  refine pn_cond rfl (fun hc11 => ?_) (fun hc11 => ?_)
  · simp only [Bool.and_eq_true, Bool.not_eq_true', decide_eq_true_eq] at hc11
    refine pn_skip ?_
    refine pn_seq ?_
    refine pn_block ?_
    refine pn_plain [] rfl ?_
    refine TE_q rfl rfl (RD.move rfl) rfl ?_
    refine TE_q rfl rfl (RD.move rfl) rfl ?_
    refine TE_callM _ ((rd, .cells #[.pointer (some ⟨s2, 0, none⟩), .bool wr9] 128 (0, 0)) :: (s2, .cells #[sv9] 180 (0, 0)) :: HX) (bldMx 36 (idC) acc st7) ((rd, .cells #[.pointer (some ⟨s2, 0, none⟩), .bool wr9] 128 (0, 0)) :: (s2, .cells #[sv9] 180 (0, 0)) :: HX) rfl rfl trivial Tryz.call71 rfl rfl rfl (ownC (.inr (by simp [keys])) (ownC (.inr (by simp [keys])) (fun e he => hX1 e (List.mem_cons_of_mem _ (List.mem_cons_of_mem _ he))))) (fun a => by simp -failIfUnchanged <;> omega) (fun w hw => c_rdId rd s2 sv9 ys9 wr9 HX w (hby9.mono (fun _ hw => hw.sp (fun a => by simp -failIfUnchanged <;> omega))) (by first | assumption | omega | (simp; done) | (simp; omega)) (hw.sp (fun a => by simp -failIfUnchanged <;> omega))) (fun a => by simp -failIfUnchanged <;> omega) ?_
    rintro v19 H20 ⟨wr13, ys14, sv15, hr16, hrl17, hg18, rfl, rfl⟩ hX12
    refine TE_sp ((rd, .cells #[.pointer (some ⟨s2, 0, none⟩), .bool wr13] 128 (0, 0)) :: (s2, .cells #[sv15] 180 (0, 0)) :: (HX ++ (bldMx 36 (idC) acc st7))) (fun a => by simp -failIfUnchanged <;> omega) ?_
    refine TE_buildSlice (cells := (cat idC [(idM (stO ys9 wr9)).1] ++ []).toArray) rfl Tryz.runUnderlying44 Tryz.sizeOf36 Tryz.zeroValue36 rfl rfl rfl (by kernel_rfl) trivial rfl fun b31 hb31 => ?_
    refine TE_sp ((bldMx 36 (idC) acc st7) ++ ((b31, .cells (cat idC [(idM (stO ys9 wr9)).1] ++ []).toArray 36 (0, 0)) :: (rd, .cells #[.pointer (some ⟨s2, 0, none⟩), .bool wr13] 128 (0, 0)) :: (s2, .cells #[sv15] 180 (0, 0)) :: HX)) (fun a => by simp -failIfUnchanged <;> omega) ?_
    refine TE_appendX (st := st7) (l := acc) (ys := [(idM (stO ys9 wr9)).1]) ((b31, .cells (cat idC [(idM (stO ys9 wr9)).1] ++ []).toArray 36 (0, 0)) :: (rd, .cells #[.pointer (some ⟨s2, 0, none⟩), .bool wr13] 128 (0, 0)) :: (s2, .cells #[sv15] 180 (0, 0)) :: HX) idC_len idC_one rfl rfl rfl rfl trivial rfl Tryz.underlying44 elId rfl rfl rfl hbost7 (Rdx.blk (enc := idC) (H := [(b31, .cells (cat idC [(idM (stO ys9 wr9)).1] ++ []).toArray 36 (0, 0))]) (xs := [(idM (stO ys9 wr9)).1]) (n := 1) (i := 0) (tl := []) (c := 1) idC_len rfl rfl (Nat.le_refl _)) (fun _ hw => hw.sp (fun a => by simp -failIfUnchanged <;> omega)) (by simp; omega) rfl hXst7 ?_
    intro st21 hbo22 hX23 _
    have hR25 : Rdx 32 (idC) (bldMx 36 (idC) (acc ++ [(idM (stO ys9 wr9)).1]) st21) (bldVx (acc ++ [(idM (stO ys9 wr9)).1]) st21) (acc ++ [(idM (stO ys9 wr9)).1]) := hbo22.rdx (u := 36) idC_len
    refine TE_sp ((b31, .cells (cat idC [(idM (stO ys9 wr9)).1] ++ []).toArray 36 (0, 0)) :: (rd, .cells #[.pointer (some ⟨s2, 0, none⟩), .bool wr13] 128 (0, 0)) :: (s2, .cells #[sv15] 180 (0, 0)) :: ((bldMx 36 (idC) (acc ++ [(idM (stO ys9 wr9)).1]) st21) ++ HX)) (fun a => by simp -failIfUnchanged <;> omega) ?_
    refine TE_q rfl rfl (RD.assign rfl) rfl ?_
    refine TE_nil0 ?_
    refine pn_plainG [] ((rd, .cells #[.pointer (some ⟨s2, 0, none⟩), .bool wr13] 128 (0, 0)) :: (s2, .cells #[sv15] 180 (0, 0)) :: ((bldMx 36 (idC) (acc ++ [(idM (stO ys9 wr9)).1]) st21) ++ HX)) rfl (fun a => by simp -failIfUnchanged <;> omega) ?_
    refine TE_q rfl rfl (RD.move rfl) rfl ?_
    refine TE_q rfl rfl (RD.sub rfl rfl) rfl ?_
    refine TE_q rfl rfl (RD.assign rfl) rfl ?_
    refine TE_nil0 ?_
    have he26 : (IntKind.u64.wrap (((k : Nat) : Int) - 1)) = (((k - 1) : Nat) : Int) := (u64_pred hc11.1 (by omega))
    exact pn_againS ((k - 1), (acc ++ [(idM (stO ys9 wr9)).1]), ys14, sv15, wr13, st21) ⟨(sevL_go hs hc11 hg18), hr16, (show ys14.length ≤ ys3.length by omega), (show (acc ++ [(idM (stO ys9 wr9)).1]).length + (k - 1) ≤ (getM 0 (numD most) (stO ys wr)).1 by simp only [List.length_append, List.length_cons, List.length_nil]; omega), hbo22, hX23⟩ (by dsimp only; omega) ⟨rfl, rfl, rfl, (congrArg (fun z => some (Value.int .u64 z)) he26), trivial⟩ (fun a => by simp -failIfUnchanged <;> omega)
  · simp only [Bool.and_eq_false_iff, Bool.not_eq_false', decide_eq_false_iff_not] at hc11
    refine pn_exit ?_
    refine pn_seq ?_
    refine pn_plain [] rfl ?_
    refine TE_q rfl rfl (RD.move rfl) rfl ?_
    refine TE_q rfl rfl (RD.assign rfl) rfl ?_
    refine TE_nil0 ?_
    refine pn_ret ?_
    have hg27 : (sevM idM most (stO ys wr)) = (acc, stO ys9 wr9) := (by rw [sevM, hg7]; exact sevL_end hs hc11)
    exact pn_doneS ((rd, .cells #[.pointer (some ⟨s2, 0, none⟩), .bool wr9] 128 (0, 0)) :: (s2, .cells #[sv9] 180 (0, 0)) :: ((bldMx 36 (idC) acc st7) ++ HX)) rfl rfl ⟨wr9, ys9, sv9, st7, hby9, (by omega), (by rw [hg27]), (by rw [hg27]; exact hbost7), (by rw [hg27]; rfl), (by rw [hg27])⟩ (fun a => by simp -failIfUnchanged <;> omega) (ownC (.inr (by simp [keys])) (ownC (.inr (by simp [keys])) (ownA hXst7 (fun e he => hX1 e (List.mem_cons_of_mem _ (List.mem_cons_of_mem _ he))))))

end Go.Proofs.YtloljpefdecmhaaGreatDoor
