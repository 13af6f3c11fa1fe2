import Derived.Test.YtaakjgmehbbgfaaGreatDoorSap
namespace Go.Proofs.YtaakjgmehbbgfaaGreatDoor
open Go Go.Mv
set_option maxRecDepth 8000
def badA (ref : ByteArray) (l : List Rec) (r : Rec) : Prop := recOkB r = false ∨ r.ref ≠ ref ∨ (l.any fun x => decide (dotK x = dotK r)) = true
def lateB (l : List Rec) (r : Rec) : Bool := l.any fun y => outdoesB y r
def stayL (l : List Rec) (r : Rec) : List Rec := keepL (fun y => outdoesB r y) l
/-- P19.2: what applying a record comes to. -/
def ApR (ref : ByteArray) (l : List Rec) (r : Rec) (l' : List Rec) (gone e : Int) : Prop :=
  (badA ref l r ∧ l' = l ∧ gone = 0 ∧ e = 190) ∨ (¬ badA ref l r ∧ e = 0 ∧ gone = (l.length : Int) - (stayL l r).length ∧ ((lateB l r = true ∧ l' = stayL l r) ∨ (lateB l r = false ∧ l'.Perm (stayL l r ++ [r]) ∧ l'.Pairwise fun x y => ¬ dotCmp y.s y.c x.s x.c < 0)))

set_option maxHeartbeats 4000000 in
theorem c_sibApply (bs : Nat) (ref : ByteArray) (l : List Rec) (st : SnkS) (r : Rec) (g : Obj) (HX : Mem) (w : World) (hne : ref ≠ ⟨#[]⟩) (hbo : BldOk 52 recC l st) (hok : ∀ x ∈ l, RecOk x) (hr : RecOk r) (hsz : r.ref.size < 4294967281) (hlen : l.length ≤ 1000) (hg : GOk g) (hH : Hp ((bs, .cells #[.string ref, (bldVx l st)] 56 (0, 0)) :: (0, g) :: (bldMx 40 recC l st ++ HX)) w) : Calls Tryz.prog 16 #[.pointer (some ⟨bs, 0, none⟩), recV r] w (Ret w (keys ((bs, .cells #[.string ref, (bldVx l st)] 56 (0, 0)) :: bldMx 40 recC l st)) fun v H1 => ∃ l' st' gone e, v = .tuple #[.int .i64 gone, .int .i64 e] ∧ BldOk 52 recC l' st' ∧ ApR ref l r l' gone e ∧ H1 = (bs, .cells #[.string ref, (bldVx l' st')] 56 (0, 0)) :: bldMx 40 recC l' st') := by
  have hRl : Rdx 52 recC (bldMx 40 recC l st) (bldVx l st) l := hbo.rdx recC_len
  refine fn_enter (args := [_, _]) Tryz.func16 rfl Tryz.ntmps16 rfl hH ?_
  refine pn_seq ?_
  refine pn_plain [] rfl ?_
  refine TE_box rfl rfl trivial rfl fun b3 hb3 => ?_
  refine TE_q rfl rfl (RD.assign rfl) rfl ?_
  refine TE_q rfl rfl (RD.assign rfl) rfl ?_
  refine TE_nil0 ?_
  refine pn_seq ?_
  refine pn_plain [] rfl ?_
  refine TE_q rfl rfl (RD.makeFunc rfl rfl) rfl ?_
  refine TE_q rfl rfl (RD.assign rfl) rfl ?_
  refine TE_nil0 ?_
  refine pn_seq ?_
  refine pn_block ?_
  refine pn_seq ?_
  refine pn_plain [] rfl ?_
  refine TE_q rfl rfl (RD.move rfl) rfl ?_
  refine TE_call rfl rfl trivial Tryz.call50 rfl rfl rfl (fun w hs' => c_sibNone bs ref (bldVx l st) w hne (hs'.hp.sp (fun a => by simp -failIfUnchanged <;> omega))) ?_
  rintro v12 H1 ⟨rfl, rfl⟩ -
  refine TE_q rfl rfl (RD.assign rfl) rfl ?_
  refine TE_nil0 ?_
  refine pn_condF rfl ?_
  refine pn_seq ?_
  refine pn_sp ((b3, .cells (recV r).cells 40 (0, 0)) :: (bs, .cells #[.string ref, (bldVx l st)] 56 (0, 0)) :: (0, g) :: (bldMx 40 recC l st ++ HX)) (fun a => by simp -failIfUnchanged <;> omega) ?_
  refine pn_drawT [0, 5, 9, 16] [] [0, 1, 2] [_, _, _] (bldMx 40 recC l st ++ HX) rfl rfl (by kernel_rfl) (by kernel_rfl) rfl rfl ?_
  refine TE_q rfl rfl (RD.loadA (i := 0) Tryz.isAgg40 Tryz.sizeOf40 rfl rfl (Nat.le_of_ble_eq_true rfl) (rec_all _)) rfl ?_
  refine TE_call rfl rfl trivial Tryz.call38 rfl rfl rfl (fun w hs' => c_recCheck r g w hr hg hsz (hs'.hp.sp (fun a => by simp -failIfUnchanged <;> omega))) ?_
  rintro v15 H1 ⟨rfl, rfl⟩ -
  refine TE_q rfl rfl (RD.neq rfl rfl) rfl ?_
  refine TE_q rfl rfl (RD.move rfl) rfl ?_
  (first | refine TE_isT ?_ | refine TE_isF ?_ | refine TE_dec (fun h403 => ?_) (fun h403 => ?_) | refine TE_ndec (fun h403 => ?_) (fun h403 => ?_) | refine TE_bool (fun h403 => ?_) (fun h403 => ?_))
  all_goals (first | (refine TE_s rfl rfl rfl rfl rfl ?_) | (refine TE_gq rfl rfl rfl rfl (RD.fieldAddr (o := 18) Tryz.runUnderlying40 rfl rfl Tryz.sizeOf9 rfl) rfl ?_))
  all_goals (first | (refine TE_s rfl rfl rfl rfl rfl ?_) | (refine TE_gq rfl rfl rfl rfl (RD.load (i := 0) Tryz.isAgg9 rfl rfl rfl) rfl ?_))
  all_goals (first | (refine TE_s rfl rfl rfl rfl rfl ?_) | (refine TE_gq rfl rfl rfl rfl (RD.move rfl) rfl ?_))
  all_goals (first | (refine TE_s rfl rfl rfl rfl rfl ?_) | (refine TE_gq rfl rfl rfl rfl (RD.nilCheckP rfl) rfl ?_))
  all_goals (first | (refine TE_s rfl rfl rfl rfl rfl ?_) | (refine TE_gq rfl rfl rfl rfl (RD.fieldAddr (o := 0) Tryz.runUnderlying56 rfl rfl Tryz.sizeOf9 rfl) rfl ?_))
  all_goals (first | (refine TE_s rfl rfl rfl rfl rfl ?_) | (refine TE_gq rfl rfl rfl rfl (RD.load (i := 1) Tryz.isAgg9 rfl rfl rfl) rfl ?_))
  all_goals (first | (refine TE_s rfl rfl rfl rfl rfl ?_) | (refine TE_gq rfl rfl rfl rfl (RD.neq_string rfl rfl) rfl ?_))
  all_goals (first | (refine TE_q rfl rfl (RD.pickT rfl rfl) rfl ?_) | (refine TE_q rfl rfl (RD.pickF rfl rfl) rfl ?_))
  all_goals refine TE_q rfl rfl (RD.move rfl) rfl ?_
  all_goals (first | refine TE_isT ?_ | refine TE_isF ?_ | refine TE_dec (fun h412 => ?_) (fun h412 => ?_) | refine TE_ndec (fun h412 => ?_) (fun h412 => ?_) | refine TE_bool (fun h412 => ?_) (fun h412 => ?_))
  all_goals (first | (refine TE_s rfl rfl rfl rfl rfl ?_) | (refine TE_gq rfl rfl rfl rfl (RD.move rfl) rfl ?_))
  all_goals (first | (refine TE_s rfl rfl rfl rfl rfl ?_) | (refine TE_gq rfl rfl rfl rfl (RD.nilCheckP rfl) rfl ?_))
  all_goals (first | (refine TE_s rfl rfl rfl rfl rfl ?_) | (refine TE_gq rfl rfl rfl rfl (RD.fieldAddr (o := 1) Tryz.runUnderlying56 rfl rfl Tryz.sizeOf22 rfl) rfl ?_))
  all_goals (first | (refine TE_s rfl rfl rfl rfl rfl ?_) | (refine TE_gq rfl rfl rfl rfl (RD.load (i := 1) Tryz.isAgg22 rfl rfl rfl) rfl ?_))
  all_goals (first | (refine TE_s rfl rfl rfl rfl rfl ?_) | (refine TE_gq rfl rfl rfl rfl (RD.move rfl) rfl ?_))
  all_goals (first | (refine TE_s rfl rfl rfl rfl rfl ?_) | ((refine TE_call rfl rfl ⟨_, rfl, rfl⟩ Tryz.call40 rfl rfl rfl (fun w hs' => c_containsF (fun x => decide (dotK x = dotK r)) 49 #[] #[.pointer (some ⟨b3, 0, none⟩)] Tryz.call49 ((b3, .cells (recV r).cells 40 (0, 0)) :: bldMx 40 recC l st) (fun x W _ hW => c_apply1 b3 x r W (hW.sp (fun a => by simp -failIfUnchanged <;> omega))) (bldVx l st) l w (hRl.mono (fun _ hw => hw.sp (fun a => by simp -failIfUnchanged <;> omega))) hok (by omega) (hs'.hp.sp (fun a => by simp -failIfUnchanged <;> omega))) ?_; rintro v32 H18 ⟨rfl, rfl⟩ -)))
  all_goals (first | (refine TE_q rfl rfl (RD.pickT rfl rfl) rfl ?_) | (refine TE_q rfl rfl (RD.pickF rfl rfl) rfl ?_))
  all_goals refine TE_q rfl rfl (RD.assign rfl) rfl ?_
  all_goals refine TE_nil ?_
  all_goals first
    | (
        refine pn_condT rfl ?_
        refine pn_seq ?_
        refine pn_plain [] rfl ?_
        refine TE_q rfl rfl (RD.assign rfl) rfl ?_
        refine TE_q rfl rfl (RD.assign rfl) rfl ?_
        refine TE_nil0 ?_
        refine pn_ret ?_
        exact pn_doneS ((bs, .cells #[.string ref, (bldVx l st)] 56 (0, 0)) :: bldMx 40 recC l st) rfl rfl ⟨l, st, 0, 190, rfl, hbo, .inl ⟨by first | exact .inl (err1 (by assumption)) | exact .inr (.inl (by assumption)) | exact .inr (.inr hc1), rfl, rfl, rfl⟩, rfl⟩ (fun a => by simp -failIfUnchanged <;> omega) (fun e he => .inr (List.mem_map_of_mem he)))
    | (
        refine pn_condF rfl ?_
        refine pn_skip ?_
        refine pn_seq ?_
        have hnb : ¬ badA ref l r := (by rintro (h | h | h); (have h9 : err (recOkB r) 120 = 0 := (by assumption); rw [h] at h9; cases h9); exact h (by assumption); rw [hc1] at h; cases h); refine pn_sp ((b3, .cells (recV r).cells 40 (0, 0)) :: (bs, .cells #[.string ref, (bldVx l st)] 56 (0, 0)) :: (0, g) :: (bldMx 40 recC l st ++ HX)) (fun a => by simp -failIfUnchanged <;> omega) ?_
        refine pn_drawT [3, 4] [] [0, 1, 2] [_, _, _] (bldMx 40 recC l st ++ HX) rfl rfl (by kernel_rfl) (by kernel_rfl) rfl rfl ?_
        refine TE_q rfl rfl (RD.move rfl) rfl ?_
        refine TE_q rfl rfl (RD.nilCheckP rfl) rfl ?_
        refine TE_q rfl rfl (RD.fieldAddr (o := 1) Tryz.runUnderlying56 rfl rfl Tryz.sizeOf22 rfl) rfl ?_
        refine TE_q rfl rfl (RD.load (i := 1) Tryz.isAgg22 rfl rfl rfl) rfl ?_
        refine TE_q rfl rfl (RD.loadA (i := 0) Tryz.isAgg40 Tryz.sizeOf40 rfl rfl (Nat.le_of_ble_eq_true rfl) (rec_all _)) rfl ?_
        refine TE_q rfl rfl (RD.makeFunc rfl rfl) rfl ?_
        refine TE_call rfl rfl trivial Tryz.call40 rfl rfl rfl (fun w hs' => c_containsF (fun y => outdoesB y r) 51 #[recV r] #[] Tryz.call51 (bldMx 40 recC l st) (fun y W hy _ => c_outdoes2 r y W hy) (bldVx l st) l w hRl hok (by omega) (hs'.hp.sp (fun a => by simp -failIfUnchanged <;> omega))) ?_
        rintro v40 H6 ⟨rfl, rfl⟩ -
        refine TE_q rfl rfl (RD.assign rfl) rfl ?_
        refine TE_nil ?_
        refine pn_seq ?_
        have hsl : (stayL l r).length ≤ l.length := keepL_le _ l; refine pn_sp ((b3, .cells (recV r).cells 40 (0, 0)) :: (bs, .cells #[.string ref, (bldVx l st)] 56 (0, 0)) :: (0, g) :: (bldMx 40 recC l st ++ HX)) (fun a => by simp -failIfUnchanged <;> omega) ?_
        refine pn_plain [4] rfl ?_
        refine TE_q rfl rfl (RD.move rfl) rfl ?_
        refine TE_q rfl rfl (RD.nilCheckP rfl) rfl ?_
        refine TE_q rfl rfl (RD.fieldAddr (o := 1) Tryz.runUnderlying56 rfl rfl Tryz.sizeOf22 rfl) rfl ?_
        refine TE_l rfl rfl trivial rfl (RD.load (i := 1) Tryz.isAgg22 rfl rfl rfl) rfl ?_
        refine TE_q rfl rfl (RD.lenX Tryz.runUnderlying22 rfl hRl) rfl ?_
        refine TE_q rfl rfl (RD.assign rfl) rfl ?_
        refine TE_nil0 ?_
        refine pn_seq ?_
        refine pn_cut (σ := SnkS) (fun _ => [(8, .int .i64 l.length), (7, .bool (lateB l r)), (3, .pointer (some ⟨b3, 0, none⟩)), (0, .pointer (some ⟨bs, 0, none⟩))]) (fun st1 => (bs, .cells #[.string ref, (bldVx (stayL l r) st1)] 56 (0, 0)) :: ((b3, .cells (recV r).cells 40 (0, 0)) :: ((0, g) :: (bldMx 40 recC (stayL l r) st1 ++ HX)))) (fun st1 => BldOk 52 recC (stayL l r) st1 ∧ (∀ e ∈ bldMx 40 recC (stayL l r) st1, w.heap.size ≤ e.1 ∨ e.1 ∈ (keys ((bs, .cells #[.string ref, (bldVx l st)] 56 (0, 0)) :: bldMx 40 recC l st)))) ?_ ?_
        · refine pn_plain [] rfl ?_
          refine TE_q rfl rfl (RD.move rfl) rfl ?_
          refine TE_q rfl rfl (RD.move rfl) rfl ?_
          refine TE_l rfl rfl trivial rfl (RD.loadA (i := 0) Tryz.isAgg40 Tryz.sizeOf40 rfl rfl (Nat.le_of_ble_eq_true rfl) (rec_all _)) rfl ?_
          refine TE_call rfl rfl trivial Tryz.call53 rfl rfl rfl (fun w hs' => c_staying bs r w) ?_
          rintro v49 H3 ⟨bp, bf, rfl, rfl⟩ hXs
          refine TE_callR ((b3, .cells (recV r).cells 40 (0, 0)) :: (0, g) :: HX) ((bf, .cells #[.func (.func 41) #[recV r] #[]] 77 (0, 0)) :: (bp, .cells #[.pointer (some ⟨bs, 0, none⟩)] 24 (0, 0)) :: (bs, .cells #[.string ref, (bldVx l st)] 56 (0, 0)) :: bldMx 40 recC l st) (fun a => by simp -failIfUnchanged <;> omega) rfl rfl trivial Tryz.call52 rfl rfl rfl (by intro e he; simp only [List.mem_cons] at he; rcases he with rfl | rfl | rfl | he; exact .inl (hXs _ (by simp)); exact .inl (hXs _ (by simp)); exact .inr (by simp [keys]); exact .inr (by simp only [keys, List.map_cons, List.mem_cons]; exact .inr (List.mem_map_of_mem he))) (fun w hs' => c_collect 85 [.pointer (some ⟨bp, 0, none⟩), .pointer (some ⟨bf, 0, none⟩)] ((bf, .cells #[.func (.func 41) #[recV r] #[]] 77 (0, 0)) :: (bp, .cells #[.pointer (some ⟨bs, 0, none⟩)] 24 (0, 0)) :: (bs, .cells #[.string ref, (bldVx l st)] 56 (0, 0)) :: bldMx 40 recC l st) (stayL l r) (it_staying bp bf bs r ref (bldVx l st) (bldMx 40 recC l st) l hr hRl (by omega)) Tryz.call85 (by have := keepL_le (fun y => outdoesB r y) l; show (keepL _ l).length ≤ _; omega) w (hs'.hp.sp (fun a => by simp -failIfUnchanged <;> omega))) ?_
          rintro v50 H4 ⟨st1, hbo1, rfl, rfl⟩ hX1
          refine TE_sp ((bs, .cells #[.string ref, (bldVx l st)] 56 (0, 0)) :: (bldMx 40 recC (stayL l r) st1 ++ ((b3, .cells (recV r).cells 40 (0, 0)) :: (0, g) :: HX))) (fun a => by simp -failIfUnchanged <;> omega) ?_
          refine TE_q rfl rfl (RD.nilCheckP rfl) rfl ?_
          refine TE_q rfl rfl (RD.fieldAddr (o := 1) Tryz.runUnderlying56 rfl rfl Tryz.sizeOf22 rfl) rfl ?_
          refine TE_store (i := 0) rfl Tryz.sizeOf22 trivial rfl rfl (bldVx_cells _ _) (bldVx_one _ _) rfl rfl (.inr (by simp [keys])) ?_
          refine TE_nil0 ?_
          (exact pn_give st1 ⟨hbo1, fun e he => hX1 e (List.mem_append_left _ he)⟩ ⟨rfl, rfl, rfl, rfl, trivial⟩ (fun w h => (show Hp ((bs, .cells #[.string ref, (bldVx (stayL l r) st1)] 56 (0, 0)) :: (bldMx 40 recC (stayL l r) st1 ++ ((b3, .cells (recV r).cells 40 (0, 0)) :: (0, g) :: HX))) w from h).sp (fun a => by simp -failIfUnchanged <;> omega)))
        rintro st1 ⟨hbo1, hX1⟩
        refine pn_seq ?_
        refine pn_plain [5] rfl ?_
        refine TE_q rfl rfl (RD.move rfl) rfl ?_
        refine TE_q rfl rfl (RD.move rfl) rfl ?_
        refine TE_q rfl rfl (RD.nilCheckP rfl) rfl ?_
        refine TE_q rfl rfl (RD.fieldAddr (o := 1) Tryz.runUnderlying56 rfl rfl Tryz.sizeOf22 rfl) rfl ?_
        refine TE_l rfl rfl trivial rfl (RD.load (i := 0) Tryz.isAgg22 rfl rfl rfl) rfl ?_
        refine TE_q rfl rfl (RD.lenX Tryz.runUnderlying22 rfl (hbo1.rdx (u := 40) recC_len)) rfl ?_
        refine TE_q rfl rfl (RD.subI rfl rfl (by omega) (by omega)) rfl ?_
        refine TE_q rfl rfl (RD.assign rfl) rfl ?_
        refine TE_nil0 ?_
        refine pn_seq ?_
        refine pn_seq ?_
        refine pn_plain [] rfl ?_
        refine TE_q rfl rfl (RD.move rfl) rfl ?_
        refine TE_q rfl rfl (RD.not rfl) rfl ?_
        refine TE_nil0 ?_
        first | refine pn_condD rfl (fun hc2 => ?_) (fun hc2 => ?_) | refine pn_condN rfl (fun hc2 => ?_) (fun hc2 => ?_) | refine pn_cond rfl (fun hc2 => ?_) (fun hc2 => ?_)
        · refine pn_seq ?_
          refine pn_cut (σ := SnkS) (fun _ => [(4, .int .i64 ((l.length : Int) - (stayL l r).length)), (0, .pointer (some ⟨bs, 0, none⟩))]) (fun st2 => (bs, .cells #[.string ref, (bldVx ((stayL l r) ++ [r]) st2)] 56 (0, 0)) :: ((b3, .cells (recV r).cells 40 (0, 0)) :: ((0, g) :: (bldMx 40 recC ((stayL l r) ++ [r]) st2 ++ HX)))) (fun st2 => BldOk 52 recC ((stayL l r) ++ [r]) st2 ∧ ∀ e ∈ bldMx 40 recC ((stayL l r) ++ [r]) st2, w.heap.size ≤ e.1 ∨ e.1 ∈ (keys ((bs, .cells #[.string ref, (bldVx l st)] 56 (0, 0)) :: bldMx 40 recC l st))) ?_ ?_
          · refine pn_drawLU [5] [0] [1, 2] (seqT [0, 1, 2, 3, 5] (.fork (seqT [4, 6, 7, 8, 9, 10] .nil) (seqT [6, 4, 7, 8, 9, 10] .nil))) [_, _, _] (bldMx 40 recC (stayL l r) st1 ++ HX) rfl rfl (by kernel_rfl) (by kernel_rfl) rfl rfl ?_
            refine TE_q rfl rfl (RD.move rfl) rfl ?_
            refine TE_q rfl rfl (RD.move rfl) rfl ?_
            refine TE_q rfl rfl (RD.nilCheckP rfl) rfl ?_
            refine TE_q rfl rfl (RD.fieldAddr (o := 1) Tryz.runUnderlying56 rfl rfl Tryz.sizeOf22 rfl) rfl ?_
            refine TE_q rfl rfl (RD.loadA (i := 0) Tryz.isAgg40 Tryz.sizeOf40 rfl rfl (Nat.le_of_ble_eq_true rfl) (rec_all _)) rfl ?_
            refine TE_fork ?_ ?_
            refine TE_l rfl rfl trivial rfl (RD.load (i := 0) Tryz.isAgg22 rfl rfl rfl) rfl ?_
            refine TE_buildSlice (cells := (recV r).cells) rfl Tryz.runUnderlying22 Tryz.sizeOf40 Tryz.zeroValue40 rfl rfl rfl (by kernel_rfl) trivial rfl fun b68 hb68 => ?_
            refine TE_sp (bldMx 40 recC (stayL l r) st1 ++ ((b68, .cells (recV r).cells 40 (0, 0)) :: ((bs, .cells #[.string ref, (bldVx (stayL l r) st1)] 56 (0, 0)) :: HX))) (fun a => by simp -failIfUnchanged <;> omega) ?_
            refine TE_appendX (st := st1) (l := (stayL l r)) (ys := [r]) ((b68, .cells (recV r).cells 40 (0, 0)) :: ((bs, .cells #[.string ref, (bldVx (stayL l r) st1)] 56 (0, 0)) :: HX)) recC_len recC_one rfl rfl rfl rfl trivial rfl Tryz.underlying22 elRec rfl rfl rfl hbo1 (Rdx.blk (H := [(b68, .cells (recV r).cells 40 (0, 0))]) (i := 0) (tl := []) (c := 1) recC_len (by rw [cells1]; rfl) rfl (Nat.le_refl _)) (fun _ hw => hw.sp (fun a => by simp -failIfUnchanged <;> omega)) (by simp; omega) rfl hX1 ?_
            intro st2 hbo2 hX2 _
            refine TE_sp ((bs, .cells #[.string ref, (bldVx (stayL l r) st1)] 56 (0, 0)) :: (bldMx 40 recC ((stayL l r) ++ [r]) st2 ++ HX)) (fun a => by simp -failIfUnchanged <;> omega) ?_
            refine TE_q rfl rfl (RD.nilCheckP rfl) rfl ?_
            refine TE_q rfl rfl (RD.fieldAddr (o := 1) Tryz.runUnderlying56 rfl rfl Tryz.sizeOf22 rfl) rfl ?_
            refine TE_store (i := 0) rfl Tryz.sizeOf22 trivial rfl rfl (bldVx_cells _ _) (bldVx_one _ _) rfl rfl (.inr (by simp [keys])) ?_
            refine TE_nil ?_
            rotate_left
            refine TE_buildSlice (cells := (recV r).cells) rfl Tryz.runUnderlying22 Tryz.sizeOf40 Tryz.zeroValue40 rfl rfl rfl (by kernel_rfl) trivial rfl fun b68 hb68 => ?_
            refine TE_l rfl rfl trivial rfl (RD.load (i := 1) Tryz.isAgg22 rfl rfl rfl) rfl ?_
            refine TE_sp (bldMx 40 recC (stayL l r) st1 ++ ((b68, .cells (recV r).cells 40 (0, 0)) :: ((bs, .cells #[.string ref, (bldVx (stayL l r) st1)] 56 (0, 0)) :: HX))) (fun a => by simp -failIfUnchanged <;> omega) ?_
            refine TE_appendX (st := st1) (l := (stayL l r)) (ys := [r]) ((b68, .cells (recV r).cells 40 (0, 0)) :: ((bs, .cells #[.string ref, (bldVx (stayL l r) st1)] 56 (0, 0)) :: HX)) recC_len recC_one rfl rfl rfl rfl trivial rfl Tryz.underlying22 elRec rfl rfl rfl hbo1 (Rdx.blk (H := [(b68, .cells (recV r).cells 40 (0, 0))]) (i := 0) (tl := []) (c := 1) recC_len (by rw [cells1]; rfl) rfl (Nat.le_refl _)) (fun _ hw => hw.sp (fun a => by simp -failIfUnchanged <;> omega)) (by simp; omega) rfl hX1 ?_
            intro st2 hbo2 hX2 _
            refine TE_sp ((bs, .cells #[.string ref, (bldVx (stayL l r) st1)] 56 (0, 0)) :: (bldMx 40 recC ((stayL l r) ++ [r]) st2 ++ HX)) (fun a => by simp -failIfUnchanged <;> omega) ?_
            refine TE_q rfl rfl (RD.nilCheckP rfl) rfl ?_
            refine TE_q rfl rfl (RD.fieldAddr (o := 1) Tryz.runUnderlying56 rfl rfl Tryz.sizeOf22 rfl) rfl ?_
            refine TE_store (i := 0) rfl Tryz.sizeOf22 trivial rfl rfl (bldVx_cells _ _) (bldVx_one _ _) rfl rfl (.inr (by simp [keys])) ?_
            refine TE_nil ?_
            all_goals (exact pn_give st2 ⟨hbo2, hX2⟩ ⟨rfl, rfl, trivial⟩ (fun w h => (show Hp ((bs, .cells #[.string ref, (bldVx ((stayL l r) ++ [r]) st2)] 56 (0, 0)) :: (bldMx 40 recC ((stayL l r) ++ [r]) st2 ++ HX) ++ [(b3, .cells (recV r).cells 40 (0, 0)), (0, g)]) w from h).sp (fun a => by simp -failIfUnchanged <;> omega)))
          rintro st2 ⟨hbo2, hX2⟩
          refine pn_plain [] rfl ?_
          refine TE_q rfl rfl (RD.move rfl) rfl ?_
          refine TE_q rfl rfl (RD.nilCheckP rfl) rfl ?_
          refine TE_q rfl rfl (RD.fieldAddr (o := 1) Tryz.runUnderlying56 rfl rfl Tryz.sizeOf22 rfl) rfl ?_
          refine TE_l rfl rfl trivial rfl (RD.load (i := 0) Tryz.isAgg22 rfl rfl rfl) rfl ?_
          refine TE_callR ((b3, .cells (recV r).cells 40 (0, 0)) :: (bs, .cells #[.string ref, (bldVx ((stayL l r) ++ [r]) st2)] 56 (0, 0)) :: (0, g) :: HX) (bldMx 40 recC ((stayL l r) ++ [r]) st2) (fun a => by simp -failIfUnchanged <;> omega) rfl rfl trivial Tryz.call54 rfl rfl rfl hX2 (fun w hs' => c_sortB RecOk _ zeroR_ok Tryz.sort54 Tryz.isAgg40 Tryz.sizeOf40 recC_len recC_one (fun x y => dotCmp x.s x.c y.s y.c) (fun x => by rw [dotCmp_lt]; omega) (fun x y z h1 h2 => by rw [dotCmp_lt] at *; omega) (fun x y z h1 h2 => by rw [dotCmp_lt] at *; omega) 55 #[] Tryz.call55 [] (fun x y W hx hy hW => (c_apply2 x y W).mono (by rintro e w' ⟨v, H1, rfl, ⟨rfl, rfl⟩, h1, h2, h3⟩; exact ⟨_, [], rfl, rfl, h1, h2, h3⟩)) _ ((stayL l r) ++ [r]) st2 hbo2 (by intro x hx; rcases List.mem_append.1 hx with h | h; exact hok x ((List.mem_filter.1 h).1); simp only [List.mem_cons, List.not_mem_nil, or_false] at h; subst h; exact hr) w (hs'.hp.sp (fun a => by simp -failIfUnchanged <;> omega)) (by simp; omega)) ?_
          rintro v76 H4 ⟨rfl, xs, hperm, hsort, rfl, hveq, hbo'⟩ hX3
          refine TE_nil0 ?_
          refine pn_seq ?_
          refine pn_plain [] rfl ?_
          refine TE_q rfl rfl (RD.move rfl) rfl ?_
          refine TE_q rfl rfl (RD.assign rfl) rfl ?_
          refine TE_q rfl rfl (RD.assign rfl) rfl ?_
          refine TE_nil0 ?_
          refine pn_ret ?_
          (have hlt : lateB l r = false := (by simpa using hc2); exact pn_doneS ((bs, .cells #[.string ref, (bldVx ((stayL l r) ++ [r]) st2)] 56 (0, 0)) :: bldMx 40 recC xs st2) rfl rfl ⟨xs, st2, _, 0, rfl, hbo', .inr ⟨hnb, rfl, rfl, .inr ⟨hlt, hperm, hsort⟩⟩, by rw [hveq]⟩ (fun a => by simp -failIfUnchanged <;> omega) (by intro e he; rcases List.mem_cons.1 he with rfl | he; exact .inr (by simp [keys]); exact hX3 e he))
        · refine pn_skip ?_
          refine pn_seq ?_
          refine pn_plain [] rfl ?_
          refine TE_q rfl rfl (RD.move rfl) rfl ?_
          refine TE_q rfl rfl (RD.assign rfl) rfl ?_
          refine TE_q rfl rfl (RD.assign rfl) rfl ?_
          refine TE_nil0 ?_
          refine pn_ret ?_
          (have hlt : lateB l r = true := (by simpa using hc2); exact pn_doneS ((bs, .cells #[.string ref, (bldVx (stayL l r) st1)] 56 (0, 0)) :: bldMx 40 recC (stayL l r) st1) rfl rfl ⟨(stayL l r), st1, _, 0, rfl, hbo1, .inr ⟨hnb, rfl, rfl, .inl ⟨hlt, rfl⟩⟩, rfl⟩ (fun a => by simp -failIfUnchanged <;> omega) (by intro e he; rcases List.mem_cons.1 he with rfl | he; exact .inr (by simp [keys]); exact hX1 e he)))
    | (
        first | refine pn_condD rfl (fun hc1 => ?_) (fun hc1 => ?_) | refine pn_condN rfl (fun hc1 => ?_) (fun hc1 => ?_) | refine pn_cond rfl (fun hc1 => ?_) (fun hc1 => ?_)
        · refine pn_seq ?_
          refine pn_plain [] rfl ?_
          refine TE_q rfl rfl (RD.assign rfl) rfl ?_
          refine TE_q rfl rfl (RD.assign rfl) rfl ?_
          refine TE_nil0 ?_
          refine pn_ret ?_
          exact pn_doneS ((bs, .cells #[.string ref, (bldVx l st)] 56 (0, 0)) :: bldMx 40 recC l st) rfl rfl ⟨l, st, 0, 190, rfl, hbo, .inl ⟨by first | exact .inl (err1 (by assumption)) | exact .inr (.inl (by assumption)) | exact .inr (.inr hc1), rfl, rfl, rfl⟩, rfl⟩ (fun a => by simp -failIfUnchanged <;> omega) (fun e he => .inr (List.mem_map_of_mem he))
        · refine pn_skip ?_
          refine pn_seq ?_
          have hnb : ¬ badA ref l r := (by rintro (h | h | h); (have h9 : err (recOkB r) 120 = 0 := (by assumption); rw [h] at h9; cases h9); exact h (by assumption); rw [hc1] at h; cases h); refine pn_sp ((b3, .cells (recV r).cells 40 (0, 0)) :: (bs, .cells #[.string ref, (bldVx l st)] 56 (0, 0)) :: (0, g) :: (bldMx 40 recC l st ++ HX)) (fun a => by simp -failIfUnchanged <;> omega) ?_
          refine pn_drawT [3, 4] [] [0, 1, 2] [_, _, _] (bldMx 40 recC l st ++ HX) rfl rfl (by kernel_rfl) (by kernel_rfl) rfl rfl ?_
          refine TE_q rfl rfl (RD.move rfl) rfl ?_
          refine TE_q rfl rfl (RD.nilCheckP rfl) rfl ?_
          refine TE_q rfl rfl (RD.fieldAddr (o := 1) Tryz.runUnderlying56 rfl rfl Tryz.sizeOf22 rfl) rfl ?_
          refine TE_q rfl rfl (RD.load (i := 1) Tryz.isAgg22 rfl rfl rfl) rfl ?_
          refine TE_q rfl rfl (RD.loadA (i := 0) Tryz.isAgg40 Tryz.sizeOf40 rfl rfl (Nat.le_of_ble_eq_true rfl) (rec_all _)) rfl ?_
          refine TE_q rfl rfl (RD.makeFunc rfl rfl) rfl ?_
          refine TE_call rfl rfl trivial Tryz.call40 rfl rfl rfl (fun w hs' => c_containsF (fun y => outdoesB y r) 51 #[recV r] #[] Tryz.call51 (bldMx 40 recC l st) (fun y W hy _ => c_outdoes2 r y W hy) (bldVx l st) l w hRl hok (by omega) (hs'.hp.sp (fun a => by simp -failIfUnchanged <;> omega))) ?_
          rintro v40 H6 ⟨rfl, rfl⟩ -
          refine TE_q rfl rfl (RD.assign rfl) rfl ?_
          refine TE_nil ?_
          refine pn_seq ?_
          have hsl : (stayL l r).length ≤ l.length := keepL_le _ l; refine pn_sp ((b3, .cells (recV r).cells 40 (0, 0)) :: (bs, .cells #[.string ref, (bldVx l st)] 56 (0, 0)) :: (0, g) :: (bldMx 40 recC l st ++ HX)) (fun a => by simp -failIfUnchanged <;> omega) ?_
          refine pn_plain [4] rfl ?_
          refine TE_q rfl rfl (RD.move rfl) rfl ?_
          refine TE_q rfl rfl (RD.nilCheckP rfl) rfl ?_
          refine TE_q rfl rfl (RD.fieldAddr (o := 1) Tryz.runUnderlying56 rfl rfl Tryz.sizeOf22 rfl) rfl ?_
          refine TE_l rfl rfl trivial rfl (RD.load (i := 1) Tryz.isAgg22 rfl rfl rfl) rfl ?_
          refine TE_q rfl rfl (RD.lenX Tryz.runUnderlying22 rfl hRl) rfl ?_
          refine TE_q rfl rfl (RD.assign rfl) rfl ?_
          refine TE_nil0 ?_
          refine pn_seq ?_
          refine pn_cut (σ := SnkS) (fun _ => [(8, .int .i64 l.length), (7, .bool (lateB l r)), (3, .pointer (some ⟨b3, 0, none⟩)), (0, .pointer (some ⟨bs, 0, none⟩))]) (fun st1 => (bs, .cells #[.string ref, (bldVx (stayL l r) st1)] 56 (0, 0)) :: ((b3, .cells (recV r).cells 40 (0, 0)) :: ((0, g) :: (bldMx 40 recC (stayL l r) st1 ++ HX)))) (fun st1 => BldOk 52 recC (stayL l r) st1 ∧ (∀ e ∈ bldMx 40 recC (stayL l r) st1, w.heap.size ≤ e.1 ∨ e.1 ∈ (keys ((bs, .cells #[.string ref, (bldVx l st)] 56 (0, 0)) :: bldMx 40 recC l st)))) ?_ ?_
          · refine pn_plain [] rfl ?_
            refine TE_q rfl rfl (RD.move rfl) rfl ?_
            refine TE_q rfl rfl (RD.move rfl) rfl ?_
            refine TE_l rfl rfl trivial rfl (RD.loadA (i := 0) Tryz.isAgg40 Tryz.sizeOf40 rfl rfl (Nat.le_of_ble_eq_true rfl) (rec_all _)) rfl ?_
            refine TE_call rfl rfl trivial Tryz.call53 rfl rfl rfl (fun w hs' => c_staying bs r w) ?_
            rintro v49 H3 ⟨bp, bf, rfl, rfl⟩ hXs
            refine TE_callR ((b3, .cells (recV r).cells 40 (0, 0)) :: (0, g) :: HX) ((bf, .cells #[.func (.func 41) #[recV r] #[]] 77 (0, 0)) :: (bp, .cells #[.pointer (some ⟨bs, 0, none⟩)] 24 (0, 0)) :: (bs, .cells #[.string ref, (bldVx l st)] 56 (0, 0)) :: bldMx 40 recC l st) (fun a => by simp -failIfUnchanged <;> omega) rfl rfl trivial Tryz.call52 rfl rfl rfl (by intro e he; simp only [List.mem_cons] at he; rcases he with rfl | rfl | rfl | he; exact .inl (hXs _ (by simp)); exact .inl (hXs _ (by simp)); exact .inr (by simp [keys]); exact .inr (by simp only [keys, List.map_cons, List.mem_cons]; exact .inr (List.mem_map_of_mem he))) (fun w hs' => c_collect 85 [.pointer (some ⟨bp, 0, none⟩), .pointer (some ⟨bf, 0, none⟩)] ((bf, .cells #[.func (.func 41) #[recV r] #[]] 77 (0, 0)) :: (bp, .cells #[.pointer (some ⟨bs, 0, none⟩)] 24 (0, 0)) :: (bs, .cells #[.string ref, (bldVx l st)] 56 (0, 0)) :: bldMx 40 recC l st) (stayL l r) (it_staying bp bf bs r ref (bldVx l st) (bldMx 40 recC l st) l hr hRl (by omega)) Tryz.call85 (by have := keepL_le (fun y => outdoesB r y) l; show (keepL _ l).length ≤ _; omega) w (hs'.hp.sp (fun a => by simp -failIfUnchanged <;> omega))) ?_
            rintro v50 H4 ⟨st1, hbo1, rfl, rfl⟩ hX1
            refine TE_sp ((bs, .cells #[.string ref, (bldVx l st)] 56 (0, 0)) :: (bldMx 40 recC (stayL l r) st1 ++ ((b3, .cells (recV r).cells 40 (0, 0)) :: (0, g) :: HX))) (fun a => by simp -failIfUnchanged <;> omega) ?_
            refine TE_q rfl rfl (RD.nilCheckP rfl) rfl ?_
            refine TE_q rfl rfl (RD.fieldAddr (o := 1) Tryz.runUnderlying56 rfl rfl Tryz.sizeOf22 rfl) rfl ?_
            refine TE_store (i := 0) rfl Tryz.sizeOf22 trivial rfl rfl (bldVx_cells _ _) (bldVx_one _ _) rfl rfl (.inr (by simp [keys])) ?_
            refine TE_nil0 ?_
            (exact pn_give st1 ⟨hbo1, fun e he => hX1 e (List.mem_append_left _ he)⟩ ⟨rfl, rfl, rfl, rfl, trivial⟩ (fun w h => (show Hp ((bs, .cells #[.string ref, (bldVx (stayL l r) st1)] 56 (0, 0)) :: (bldMx 40 recC (stayL l r) st1 ++ ((b3, .cells (recV r).cells 40 (0, 0)) :: (0, g) :: HX))) w from h).sp (fun a => by simp -failIfUnchanged <;> omega)))
          rintro st1 ⟨hbo1, hX1⟩
          refine pn_seq ?_
          refine pn_plain [5] rfl ?_
          refine TE_q rfl rfl (RD.move rfl) rfl ?_
          refine TE_q rfl rfl (RD.move rfl) rfl ?_
          refine TE_q rfl rfl (RD.nilCheckP rfl) rfl ?_
          refine TE_q rfl rfl (RD.fieldAddr (o := 1) Tryz.runUnderlying56 rfl rfl Tryz.sizeOf22 rfl) rfl ?_
          refine TE_l rfl rfl trivial rfl (RD.load (i := 0) Tryz.isAgg22 rfl rfl rfl) rfl ?_
          refine TE_q rfl rfl (RD.lenX Tryz.runUnderlying22 rfl (hbo1.rdx (u := 40) recC_len)) rfl ?_
          refine TE_q rfl rfl (RD.subI rfl rfl (by omega) (by omega)) rfl ?_
          refine TE_q rfl rfl (RD.assign rfl) rfl ?_
          refine TE_nil0 ?_
          refine pn_seq ?_
          refine pn_seq ?_
          refine pn_plain [] rfl ?_
          refine TE_q rfl rfl (RD.move rfl) rfl ?_
          refine TE_q rfl rfl (RD.not rfl) rfl ?_
          refine TE_nil0 ?_
          first | refine pn_condD rfl (fun hc2 => ?_) (fun hc2 => ?_) | refine pn_condN rfl (fun hc2 => ?_) (fun hc2 => ?_) | refine pn_cond rfl (fun hc2 => ?_) (fun hc2 => ?_)
          · refine pn_seq ?_
            refine pn_cut (σ := SnkS) (fun _ => [(4, .int .i64 ((l.length : Int) - (stayL l r).length)), (0, .pointer (some ⟨bs, 0, none⟩))]) (fun st2 => (bs, .cells #[.string ref, (bldVx ((stayL l r) ++ [r]) st2)] 56 (0, 0)) :: ((b3, .cells (recV r).cells 40 (0, 0)) :: ((0, g) :: (bldMx 40 recC ((stayL l r) ++ [r]) st2 ++ HX)))) (fun st2 => BldOk 52 recC ((stayL l r) ++ [r]) st2 ∧ ∀ e ∈ bldMx 40 recC ((stayL l r) ++ [r]) st2, w.heap.size ≤ e.1 ∨ e.1 ∈ (keys ((bs, .cells #[.string ref, (bldVx l st)] 56 (0, 0)) :: bldMx 40 recC l st))) ?_ ?_
            · refine pn_drawLU [5] [0] [1, 2] (seqT [0, 1, 2, 3, 5] (.fork (seqT [4, 6, 7, 8, 9, 10] .nil) (seqT [6, 4, 7, 8, 9, 10] .nil))) [_, _, _] (bldMx 40 recC (stayL l r) st1 ++ HX) rfl rfl (by kernel_rfl) (by kernel_rfl) rfl rfl ?_
              refine TE_q rfl rfl (RD.move rfl) rfl ?_
              refine TE_q rfl rfl (RD.move rfl) rfl ?_
              refine TE_q rfl rfl (RD.nilCheckP rfl) rfl ?_
              refine TE_q rfl rfl (RD.fieldAddr (o := 1) Tryz.runUnderlying56 rfl rfl Tryz.sizeOf22 rfl) rfl ?_
              refine TE_q rfl rfl (RD.loadA (i := 0) Tryz.isAgg40 Tryz.sizeOf40 rfl rfl (Nat.le_of_ble_eq_true rfl) (rec_all _)) rfl ?_
              refine TE_fork ?_ ?_
              refine TE_l rfl rfl trivial rfl (RD.load (i := 0) Tryz.isAgg22 rfl rfl rfl) rfl ?_
              refine TE_buildSlice (cells := (recV r).cells) rfl Tryz.runUnderlying22 Tryz.sizeOf40 Tryz.zeroValue40 rfl rfl rfl (by kernel_rfl) trivial rfl fun b68 hb68 => ?_
              refine TE_sp (bldMx 40 recC (stayL l r) st1 ++ ((b68, .cells (recV r).cells 40 (0, 0)) :: ((bs, .cells #[.string ref, (bldVx (stayL l r) st1)] 56 (0, 0)) :: HX))) (fun a => by simp -failIfUnchanged <;> omega) ?_
              refine TE_appendX (st := st1) (l := (stayL l r)) (ys := [r]) ((b68, .cells (recV r).cells 40 (0, 0)) :: ((bs, .cells #[.string ref, (bldVx (stayL l r) st1)] 56 (0, 0)) :: HX)) recC_len recC_one rfl rfl rfl rfl trivial rfl Tryz.underlying22 elRec rfl rfl rfl hbo1 (Rdx.blk (H := [(b68, .cells (recV r).cells 40 (0, 0))]) (i := 0) (tl := []) (c := 1) recC_len (by rw [cells1]; rfl) rfl (Nat.le_refl _)) (fun _ hw => hw.sp (fun a => by simp -failIfUnchanged <;> omega)) (by simp; omega) rfl hX1 ?_
              intro st2 hbo2 hX2 _
              refine TE_sp ((bs, .cells #[.string ref, (bldVx (stayL l r) st1)] 56 (0, 0)) :: (bldMx 40 recC ((stayL l r) ++ [r]) st2 ++ HX)) (fun a => by simp -failIfUnchanged <;> omega) ?_
              refine TE_q rfl rfl (RD.nilCheckP rfl) rfl ?_
              refine TE_q rfl rfl (RD.fieldAddr (o := 1) Tryz.runUnderlying56 rfl rfl Tryz.sizeOf22 rfl) rfl ?_
              refine TE_store (i := 0) rfl Tryz.sizeOf22 trivial rfl rfl (bldVx_cells _ _) (bldVx_one _ _) rfl rfl (.inr (by simp [keys])) ?_
              refine TE_nil ?_
              rotate_left
              refine TE_buildSlice (cells := (recV r).cells) rfl Tryz.runUnderlying22 Tryz.sizeOf40 Tryz.zeroValue40 rfl rfl rfl (by kernel_rfl) trivial rfl fun b68 hb68 => ?_
              refine TE_l rfl rfl trivial rfl (RD.load (i := 1) Tryz.isAgg22 rfl rfl rfl) rfl ?_
              refine TE_sp (bldMx 40 recC (stayL l r) st1 ++ ((b68, .cells (recV r).cells 40 (0, 0)) :: ((bs, .cells #[.string ref, (bldVx (stayL l r) st1)] 56 (0, 0)) :: HX))) (fun a => by simp -failIfUnchanged <;> omega) ?_
              refine TE_appendX (st := st1) (l := (stayL l r)) (ys := [r]) ((b68, .cells (recV r).cells 40 (0, 0)) :: ((bs, .cells #[.string ref, (bldVx (stayL l r) st1)] 56 (0, 0)) :: HX)) recC_len recC_one rfl rfl rfl rfl trivial rfl Tryz.underlying22 elRec rfl rfl rfl hbo1 (Rdx.blk (H := [(b68, .cells (recV r).cells 40 (0, 0))]) (i := 0) (tl := []) (c := 1) recC_len (by rw [cells1]; rfl) rfl (Nat.le_refl _)) (fun _ hw => hw.sp (fun a => by simp -failIfUnchanged <;> omega)) (by simp; omega) rfl hX1 ?_
              intro st2 hbo2 hX2 _
              refine TE_sp ((bs, .cells #[.string ref, (bldVx (stayL l r) st1)] 56 (0, 0)) :: (bldMx 40 recC ((stayL l r) ++ [r]) st2 ++ HX)) (fun a => by simp -failIfUnchanged <;> omega) ?_
              refine TE_q rfl rfl (RD.nilCheckP rfl) rfl ?_
              refine TE_q rfl rfl (RD.fieldAddr (o := 1) Tryz.runUnderlying56 rfl rfl Tryz.sizeOf22 rfl) rfl ?_
              refine TE_store (i := 0) rfl Tryz.sizeOf22 trivial rfl rfl (bldVx_cells _ _) (bldVx_one _ _) rfl rfl (.inr (by simp [keys])) ?_
              refine TE_nil ?_
              all_goals (exact pn_give st2 ⟨hbo2, hX2⟩ ⟨rfl, rfl, trivial⟩ (fun w h => (show Hp ((bs, .cells #[.string ref, (bldVx ((stayL l r) ++ [r]) st2)] 56 (0, 0)) :: (bldMx 40 recC ((stayL l r) ++ [r]) st2 ++ HX) ++ [(b3, .cells (recV r).cells 40 (0, 0)), (0, g)]) w from h).sp (fun a => by simp -failIfUnchanged <;> omega)))
            rintro st2 ⟨hbo2, hX2⟩
            refine pn_plain [] rfl ?_
            refine TE_q rfl rfl (RD.move rfl) rfl ?_
            refine TE_q rfl rfl (RD.nilCheckP rfl) rfl ?_
            refine TE_q rfl rfl (RD.fieldAddr (o := 1) Tryz.runUnderlying56 rfl rfl Tryz.sizeOf22 rfl) rfl ?_
            refine TE_l rfl rfl trivial rfl (RD.load (i := 0) Tryz.isAgg22 rfl rfl rfl) rfl ?_
            refine TE_callR ((b3, .cells (recV r).cells 40 (0, 0)) :: (bs, .cells #[.string ref, (bldVx ((stayL l r) ++ [r]) st2)] 56 (0, 0)) :: (0, g) :: HX) (bldMx 40 recC ((stayL l r) ++ [r]) st2) (fun a => by simp -failIfUnchanged <;> omega) rfl rfl trivial Tryz.call54 rfl rfl rfl hX2 (fun w hs' => c_sortB RecOk _ zeroR_ok Tryz.sort54 Tryz.isAgg40 Tryz.sizeOf40 recC_len recC_one (fun x y => dotCmp x.s x.c y.s y.c) (fun x => by rw [dotCmp_lt]; omega) (fun x y z h1 h2 => by rw [dotCmp_lt] at *; omega) (fun x y z h1 h2 => by rw [dotCmp_lt] at *; omega) 55 #[] Tryz.call55 [] (fun x y W hx hy hW => (c_apply2 x y W).mono (by rintro e w' ⟨v, H1, rfl, ⟨rfl, rfl⟩, h1, h2, h3⟩; exact ⟨_, [], rfl, rfl, h1, h2, h3⟩)) _ ((stayL l r) ++ [r]) st2 hbo2 (by intro x hx; rcases List.mem_append.1 hx with h | h; exact hok x ((List.mem_filter.1 h).1); simp only [List.mem_cons, List.not_mem_nil, or_false] at h; subst h; exact hr) w (hs'.hp.sp (fun a => by simp -failIfUnchanged <;> omega)) (by simp; omega)) ?_
            rintro v76 H4 ⟨rfl, xs, hperm, hsort, rfl, hveq, hbo'⟩ hX3
            refine TE_nil0 ?_
            refine pn_seq ?_
            refine pn_plain [] rfl ?_
            refine TE_q rfl rfl (RD.move rfl) rfl ?_
            refine TE_q rfl rfl (RD.assign rfl) rfl ?_
            refine TE_q rfl rfl (RD.assign rfl) rfl ?_
            refine TE_nil0 ?_
            refine pn_ret ?_
            (have hlt : lateB l r = false := (by simpa using hc2); exact pn_doneS ((bs, .cells #[.string ref, (bldVx ((stayL l r) ++ [r]) st2)] 56 (0, 0)) :: bldMx 40 recC xs st2) rfl rfl ⟨xs, st2, _, 0, rfl, hbo', .inr ⟨hnb, rfl, rfl, .inr ⟨hlt, hperm, hsort⟩⟩, by rw [hveq]⟩ (fun a => by simp -failIfUnchanged <;> omega) (by intro e he; rcases List.mem_cons.1 he with rfl | he; exact .inr (by simp [keys]); exact hX3 e he))
          · refine pn_skip ?_
            refine pn_seq ?_
            refine pn_plain [] rfl ?_
            refine TE_q rfl rfl (RD.move rfl) rfl ?_
            refine TE_q rfl rfl (RD.assign rfl) rfl ?_
            refine TE_q rfl rfl (RD.assign rfl) rfl ?_
            refine TE_nil0 ?_
            refine pn_ret ?_
            (have hlt : lateB l r = true := (by simpa using hc2); exact pn_doneS ((bs, .cells #[.string ref, (bldVx (stayL l r) st1)] 56 (0, 0)) :: bldMx 40 recC (stayL l r) st1) rfl rfl ⟨(stayL l r), st1, _, 0, rfl, hbo1, .inr ⟨hnb, rfl, rfl, .inl ⟨hlt, rfl⟩⟩, rfl⟩ (fun a => by simp -failIfUnchanged <;> omega) (by intro e he; rcases List.mem_cons.1 he with rfl | he; exact .inr (by simp [keys]); exact hX1 e he)))

end Go.Proofs.YtaakjgmehbbgfaaGreatDoor
