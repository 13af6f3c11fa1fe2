import Derived.Test.YtcmnmigcalibdaaGreatDoorGal
namespace Go.Proofs.YtcmnmigcalibdaaGreatDoor
open Go.Proofs.Tryz
open Go Go.Mv
set_option maxRecDepth 8000
theorem pairs_of {l : List UInt8} {pre : List (Nat × UInt32)} {x : Nat × UInt32} (h : (pre ++ [x]) <+: shaPairs l) : x = (pre.length, gt (shaWs l 64) pre.length) ∧ pre.length < 64 := by
  obtain ⟨r, hr⟩ := h
  have hl : pre.length < 64 := by
    have := congrArg List.length hr
    rw [shaPairs_len] at this; simp at this; omega
  have h1 := shaPairs_at l hl
  rw [← hr] at h1
  have h2 : ((pre ++ [x]) ++ r)[pre.length]? = some x := by simp
  rw [h2] at h1
  exact ⟨Option.some.inj h1, hl⟩
theorem sha_end {s tt : S8} {l : List UInt8} {pre : List (Nat × UInt32)} {x : Nat × UInt32} (hx : x = (pre.length, gt (shaWs l 64) pre.length)) (ht : tt = shaRun s l pre.length) : shaStep tt (gtf shaK x.1) x.2 = shaRun s l (pre ++ [x]).length := by
  subst ht
  rw [List.length_append]
  show _ = shaRun s l (pre.length + 1)
  rw [shaRun, hx]
  simp only [gtf]
def addTo (i : Nat) (f g : Nat → UInt32) : Nat → UInt32 := fun j => if j < i then f j + g j else f j
theorem addTo_0 (f g : Nat → UInt32) : addTo 0 f g = f := by funext j; simp [addTo]
theorem addTo_next {n i : Nat} {f g : Nat → UInt32} : (wfV n (upd (addTo i f g) i (addTo i f g i + g i))).cells = (wfV n (addTo (i + 1) f g)).cells := by
  congr 1
  apply wfV_congr
  intro j _
  by_cases h : j = i
  · subst h; rw [upd_same]; simp [addTo]
  · rw [upd_other h]; simp only [addTo]
    by_cases h1 : j < i
    · rw [if_pos h1, if_pos (by omega)]
    · rw [if_neg h1, if_neg (by omega)]
theorem addTo_8 (s tt : S8) : (wfV 8 (addTo 8 (s8f tt) (s8f s))) = (wfV 8 (s8f (addS8 s tt))) := by
  apply wfV_congr
  intro j hj
  simp only [addTo, if_pos hj]
  rcases (show j = 0 ∨ j = 1 ∨ j = 2 ∨ j = 3 ∨ j = 4 ∨ j = 5 ∨ j = 6 ∨ j = 7 by omega) with rfl | rfl | rfl | rfl | rfl | rfl | rfl | rfl <;> rfl

set_option maxHeartbeats 4000000 in
theorem c_mixed (s : S8) (l : List UInt8) (w : World) (hH : Hp [(1, .cells (wfV 64 (gtf shaK)).cells 286 (0, 0))] w) : Calls Tryz.prog 148 #[wfV 8 (s8f s), bfV 64 (gtf l)] w (Ret w [] fun v H1 => v = wfV 8 (s8f (shaMix s l)) ∧ H1 = []) := by
 refine fn_enter (args := [_, _]) func148 rfl ntmps148 rfl hH (sq (pl (TE_boxC (wfV 8 (s8f s)).cells rfl rfl rfl trivial rfl fun b2 hb2 => (TE_boxC (bfV 64 (gtf l)).cells rfl rfl rfl trivial rfl fun b3 hb3 => (TE_allocC (wfV 8 (fun _ => 0)).cells rfl zeroValue151 (by kernel_rfl) trivial rfl fun b4 hb4 => (n0 (sq (pl (ql rfl (RD.loadA (i := 2) isAgg151 sizeOf151 rfl rfl (Nat.le_of_ble_eq_true rfl) (wf_all 8 _)) ?_)))))))))
 refine TE_allocC (wfV 8 (fun _ => 0)).cells rfl zeroValue151 (by kernel_rfl) trivial rfl fun b5 hb5 => (TE_putCW 0 _ _ [(b5, .cells (wfV 8 (s8f s)).cells 151 (0, 0)), (b4, .cells (wfV 8 (fun _ => 0)).cells 151 (0, 0)), (b3, .cells (bfV 64 (gtf l)).cells 238 (0, 0)), (b2, .cells (wfV 8 (s8f s)).cells 151 (0, 0)), (1, .cells (wfV 64 (gtf shaK)).cells 286 (0, 0))] rfl sizeOf151 trivial rfl rfl rfl (wf_one 8 _) rfl rfl rfl rfl (.inl hb5) (n0 (sq (sq (pl (ql rfl (RD.loadA (i := 2) isAgg238 sizeOf238 rfl rfl (Nat.le_of_ble_eq_true rfl) (bf_all 64 _)) (cG rfl call186 (fun w hw => c_spread l w hw.s) ?_)))))))
 rintro v3 H4 ⟨bx1, rfl, rfl⟩ hX2
 refine tsp [(bx1, .cells (bfV 64 (gtf l)).cells 238 (0, 0)), (b5, .cells (wfV 8 (s8f s)).cells 151 (0, 0)), (b4, .cells (wfV 8 (fun _ => 0)).cells 151 (0, 0)), (b3, .cells (bfV 64 (gtf l)).cells 238 (0, 0)), (b2, .cells (wfV 8 (s8f s)).cells 151 (0, 0)), (1, .cells (wfV 64 (gtf shaK)).cells 286 (0, 0))] (n0 (pn_block (pn_rangeH (τ := Unit) (HI := [(bx1, .cells (bfV 64 (gtf l)).cells 238 (0, 0))]) (HR := [(b4, .cells (wfV 8 (fun _ => 0)).cells 151 (0, 0)), (b2, .cells (wfV 8 (s8f s)).cells 151 (0, 0)), (1, .cells (wfV 64 (gtf shaK)).cells 286 (0, 0))]) (it_spread bx1 l) (fun (q : S8) => [(b5, .cells (wfV 8 (s8f q)).cells 151 (0, 0))]) (fun pre (q : S8) => (q = shaRun s l pre.length)) (fun _ _ _ => False) s rfl rfl call230 (by intro x; rfl) rfl (fun w h => h.sp (fun a => by simp -failIfUnchanged <;> omega)) (by show ∀ e ∈ ([(bx1, .cells (bfV 64 (gtf l)).cells 238 (0, 0)), (b5, .cells (wfV 8 (s8f s)).cells 151 (0, 0))] : Mem), _; exact (ownC (.inl (hX2 _ List.mem_cons_self)) (ownC (.inl hb5) own0))) (fun x _ => [(5, .pointer (some ⟨b5, 0, none⟩)), (6, .int .i64 (x.1 : Int)), (7, .int .u32 (x.2.toNat : Int)), (18, .int .i64 (x.1 : Int)), (19, .int .u32 (x.2.toNat : Int))]) (fun _ _ => []) (fun _ _ => True) ?_ ?_ ?_ ?_)))
 ·intro W l1 pre x q R hW hG hpre
  exact sq (pl (qa rfl (n0 (pl (qa rfl (n0 (fun a w hr hs => ⟨(), trivial, hr.keeps ⟨rfl, rfl, rfl, rfl, rfl, trivial⟩, hs⟩)))))))
 ·rintro W l1 pre x tt _ R hW ht hpre -
  obtain ⟨hx, hxl⟩ := pairs_of hpre
  have hx1 : x.1 < 64 := by rw [hx]; exact hxl
  refine pn_block (sq (dG [1, 3] [] ((b5, .cells (wfV 8 (s8f tt)).cells 151 (0, 0)) :: (b4, .cells (wfV 8 (fun _ => 0)).cells 151 (0, 0)) :: (b2, .cells (wfV 8 (s8f s)).cells 151 (0, 0)) :: (1, .cells (wfV 64 (gtf shaK)).cells 286 (0, 0)) :: R) (qq rfl (RD.as (v := .pointer (some ⟨b5, 0, none⟩)) (RD.indexAddrA runUnderlying151 sizeOf73 rfl rfl (by decide) (by decide)) rfl) (qq rfl (RD.load (i := 0) (v := .int .u32 (((s8f tt) 0).toNat : Int)) isAgg73 rfl rfl (wf_cell 0 (by decide))) (qq rfl (RD.as (v := .pointer (some ⟨b5, 4, none⟩)) (RD.indexAddrA runUnderlying151 sizeOf73 rfl rfl (by decide) (by decide)) rfl) (qq rfl (RD.load (i := 0) (v := .int .u32 (((s8f tt) 4).toNat : Int)) isAgg73 rfl rfl (wf_cell 4 (by decide))) (qa rfl (qa rfl (TE_nil ?_)))))))))
  refine sq (plG [] ((b5, .cells (wfV 8 (s8f tt)).cells 151 (0, 0)) :: (b4, .cells (wfV 8 (fun _ => 0)).cells 151 (0, 0)) :: (b2, .cells (wfV 8 (s8f s)).cells 151 (0, 0)) :: (1, .cells (wfV 64 (gtf shaK)).cells 286 (0, 0)) :: R) (qm rfl (cG rfl call187 (fun w hw => c_rotl ((s8f tt) 4) 6 w (by decide) (by decide) hw.s) ?_)))
  rintro v5 H6 ⟨rfl, rfl⟩ -
  refine qm rfl (cG rfl call187 (fun w hw => c_rotl ((s8f tt) 4) 11 w (by decide) (by decide) hw.s) ?_)
  rintro v7 H8 ⟨rfl, rfl⟩ -
  refine qq rfl (RD.xorW (a := (rotr ((s8f tt) 4) 6)) (b := (rotr ((s8f tt) 4) 11)) rfl rfl) (qm rfl (cG rfl call187 (fun w hw => c_rotl ((s8f tt) 4) 25 w (by decide) (by decide) hw.s) ?_))
  rintro v9 H10 ⟨rfl, rfl⟩ -
  refine qq rfl (RD.xorW (a := ((rotr ((s8f tt) 4) 6) ^^^ (rotr ((s8f tt) 4) 11))) (b := (rotr ((s8f tt) 4) 25)) rfl rfl) (qa rfl (n0 (sq (dG [1, 6, 11, 17] [] ((b5, .cells (wfV 8 (s8f tt)).cells 151 (0, 0)) :: (b4, .cells (wfV 8 (fun _ => 0)).cells 151 (0, 0)) :: (b2, .cells (wfV 8 (s8f s)).cells 151 (0, 0)) :: (1, .cells (wfV 64 (gtf shaK)).cells 286 (0, 0)) :: R) (qq rfl (RD.as (v := .pointer (some ⟨b5, 7, none⟩)) (RD.indexAddrA runUnderlying151 sizeOf73 rfl rfl (by decide) (by decide)) rfl) (qq rfl (RD.load (i := 0) (v := .int .u32 (((s8f tt) 7).toNat : Int)) isAgg73 rfl rfl (wf_cell 7 (by decide))) (qm rfl (qq rfl (RD.addW (a := ((s8f tt) 7)) (b := (((rotr ((s8f tt) 4) 6) ^^^ (rotr ((s8f tt) 4) 11)) ^^^ (rotr ((s8f tt) 4) 25))) rfl rfl) (qm rfl ?_)))))))))
  refine qq rfl (RD.as (v := .pointer (some ⟨b5, 5, none⟩)) (RD.indexAddrA runUnderlying151 sizeOf73 rfl rfl (by decide) (by decide)) rfl) (qq rfl (RD.load (i := 0) (v := .int .u32 (((s8f tt) 5).toNat : Int)) isAgg73 rfl rfl (wf_cell 5 (by decide))) (qq rfl (RD.andW (a := ((s8f tt) 4)) (b := ((s8f tt) 5)) rfl rfl) (qm rfl (qq rfl (RD.notW (a := ((s8f tt) 4)) rfl) (qq rfl (RD.as (v := .pointer (some ⟨b5, 6, none⟩)) (RD.indexAddrA runUnderlying151 sizeOf73 rfl rfl (by decide) (by decide)) rfl) (qq rfl (RD.load (i := 0) (v := .int .u32 (((s8f tt) 6).toNat : Int)) isAgg73 rfl rfl (wf_cell 6 (by decide))) (qq rfl (RD.andW (a := (~~~((s8f tt) 4))) (b := ((s8f tt) 6)) rfl rfl) (qq rfl (RD.xorW (a := (((s8f tt) 4) &&& ((s8f tt) 5))) (b := ((~~~((s8f tt) 4)) &&& ((s8f tt) 6))) rfl rfl) (qq rfl (RD.addW (a := (((s8f tt) 7) + (((rotr ((s8f tt) 4) 6) ^^^ (rotr ((s8f tt) 4) 11)) ^^^ (rotr ((s8f tt) 4) 25)))) (b := ((((s8f tt) 4) &&& ((s8f tt) 5)) ^^^ ((~~~((s8f tt) 4)) &&& ((s8f tt) 6)))) rfl rfl) ?_)))))))))
  refine qm rfl (qq rfl (RD.indexAddrA runUnderlying286 sizeOf73 rfl rfl (by omega) (by omega)) (qq rfl (RD.load (i := 3) (v := .int .u32 (((gtf shaK) x.1).toNat : Int)) isAgg73 rfl rfl (wf_get x.1 (by omega) (by omega))) (qq rfl (RD.addW (a := ((((s8f tt) 7) + (((rotr ((s8f tt) 4) 6) ^^^ (rotr ((s8f tt) 4) 11)) ^^^ (rotr ((s8f tt) 4) 25))) + ((((s8f tt) 4) &&& ((s8f tt) 5)) ^^^ ((~~~((s8f tt) 4)) &&& ((s8f tt) 6))))) (b := ((gtf shaK) x.1)) rfl rfl) (qm rfl (qq rfl (RD.addW (a := (((((s8f tt) 7) + (((rotr ((s8f tt) 4) 6) ^^^ (rotr ((s8f tt) 4) 11)) ^^^ (rotr ((s8f tt) 4) 25))) + ((((s8f tt) 4) &&& ((s8f tt) 5)) ^^^ ((~~~((s8f tt) 4)) &&& ((s8f tt) 6)))) + ((gtf shaK) x.1))) (b := x.2) rfl rfl) (qa rfl (TE_nil (sq (plG [] ((b5, .cells (wfV 8 (s8f tt)).cells 151 (0, 0)) :: (b4, .cells (wfV 8 (fun _ => 0)).cells 151 (0, 0)) :: (b2, .cells (wfV 8 (s8f s)).cells 151 (0, 0)) :: (1, .cells (wfV 64 (gtf shaK)).cells 286 (0, 0)) :: R) ?_)))))))))
  refine qm rfl (cG rfl call187 (fun w hw => c_rotl ((s8f tt) 0) 2 w (by decide) (by decide) hw.s) ?_)
  rintro v11 H12 ⟨rfl, rfl⟩ -
  refine qm rfl (cG rfl call187 (fun w hw => c_rotl ((s8f tt) 0) 13 w (by decide) (by decide) hw.s) ?_)
  rintro v13 H14 ⟨rfl, rfl⟩ -
  refine qq rfl (RD.xorW (a := (rotr ((s8f tt) 0) 2)) (b := (rotr ((s8f tt) 0) 13)) rfl rfl) (qm rfl (cG rfl call187 (fun w hw => c_rotl ((s8f tt) 0) 22 w (by decide) (by decide) hw.s) ?_))
  rintro v15 H16 ⟨rfl, rfl⟩ -
  refine qq rfl (RD.xorW (a := ((rotr ((s8f tt) 0) 2) ^^^ (rotr ((s8f tt) 0) 13))) (b := (rotr ((s8f tt) 0) 22)) rfl rfl) (qa rfl (n0 (sq (pl (qm rfl (qm rfl (qq rfl (RD.as (v := .pointer (some ⟨b5, 1, none⟩)) (RD.indexAddrA runUnderlying151 sizeOf73 rfl rfl (by decide) (by decide)) rfl) (ql rfl (RD.load (i := 0) (v := .int .u32 (((s8f tt) 1).toNat : Int)) isAgg73 rfl rfl (wf_cell 1 (by decide))) (qq rfl (RD.andW (a := ((s8f tt) 0)) (b := ((s8f tt) 1)) rfl rfl) ?_)))))))))
  refine qm rfl (qq rfl (RD.as (v := .pointer (some ⟨b5, 2, none⟩)) (RD.indexAddrA runUnderlying151 sizeOf73 rfl rfl (by decide) (by decide)) rfl) (ql rfl (RD.load (i := 0) (v := .int .u32 (((s8f tt) 2).toNat : Int)) isAgg73 rfl rfl (wf_cell 2 (by decide))) (qq rfl (RD.andW (a := ((s8f tt) 0)) (b := ((s8f tt) 2)) rfl rfl) (qq rfl (RD.xorW (a := (((s8f tt) 0) &&& ((s8f tt) 1))) (b := (((s8f tt) 0) &&& ((s8f tt) 2))) rfl rfl) (qq rfl (RD.as (v := .pointer (some ⟨b5, 1, none⟩)) (RD.indexAddrA runUnderlying151 sizeOf73 rfl rfl (by decide) (by decide)) rfl) (ql rfl (RD.load (i := 0) (v := .int .u32 (((s8f tt) 1).toNat : Int)) isAgg73 rfl rfl (wf_cell 1 (by decide))) (qq rfl (RD.as (v := .pointer (some ⟨b5, 2, none⟩)) (RD.indexAddrA runUnderlying151 sizeOf73 rfl rfl (by decide) (by decide)) rfl) (ql rfl (RD.load (i := 0) (v := .int .u32 (((s8f tt) 2).toNat : Int)) isAgg73 rfl rfl (wf_cell 2 (by decide))) (qq rfl (RD.andW (a := ((s8f tt) 1)) (b := ((s8f tt) 2)) rfl rfl) ?_)))))))))
  refine qq rfl (RD.xorW (a := ((((s8f tt) 0) &&& ((s8f tt) 1)) ^^^ (((s8f tt) 0) &&& ((s8f tt) 2)))) (b := (((s8f tt) 1) &&& ((s8f tt) 2))) rfl rfl) (qq rfl (RD.addW (a := (((rotr ((s8f tt) 0) 2) ^^^ (rotr ((s8f tt) 0) 13)) ^^^ (rotr ((s8f tt) 0) 22))) (b := (((((s8f tt) 0) &&& ((s8f tt) 1)) ^^^ (((s8f tt) 0) &&& ((s8f tt) 2))) ^^^ (((s8f tt) 1) &&& ((s8f tt) 2)))) rfl rfl) (qa rfl (n0 (pl (qm rfl (qm rfl (qq rfl (RD.addW (a := ((((((s8f tt) 7) + (((rotr ((s8f tt) 4) 6) ^^^ (rotr ((s8f tt) 4) 11)) ^^^ (rotr ((s8f tt) 4) 25))) + ((((s8f tt) 4) &&& ((s8f tt) 5)) ^^^ ((~~~((s8f tt) 4)) &&& ((s8f tt) 6)))) + ((gtf shaK) x.1)) + x.2)) (b := ((((rotr ((s8f tt) 0) 2) ^^^ (rotr ((s8f tt) 0) 13)) ^^^ (rotr ((s8f tt) 0) 22)) + (((((s8f tt) 0) &&& ((s8f tt) 1)) ^^^ (((s8f tt) 0) &&& ((s8f tt) 2))) ^^^ (((s8f tt) 1) &&& ((s8f tt) 2))))) rfl rfl) (qm rfl (qq rfl (RD.as (v := .pointer (some ⟨b5, 1, none⟩)) (RD.indexAddrA runUnderlying151 sizeOf73 rfl rfl (by decide) (by decide)) rfl) ?_)))))))))
  refine ql rfl (RD.load (i := 0) (v := .int .u32 (((s8f tt) 1).toNat : Int)) isAgg73 rfl rfl (wf_cell 1 (by decide))) (qq rfl (RD.as (v := .pointer (some ⟨b5, 2, none⟩)) (RD.indexAddrA runUnderlying151 sizeOf73 rfl rfl (by decide) (by decide)) rfl) (ql rfl (RD.load (i := 0) (v := .int .u32 (((s8f tt) 2).toNat : Int)) isAgg73 rfl rfl (wf_cell 2 (by decide))) (qq rfl (RD.as (v := .pointer (some ⟨b5, 3, none⟩)) (RD.indexAddrA runUnderlying151 sizeOf73 rfl rfl (by decide) (by decide)) rfl) (ql rfl (RD.load (i := 0) (v := .int .u32 (((s8f tt) 3).toNat : Int)) isAgg73 rfl rfl (wf_cell 3 (by decide))) (qm rfl (qq rfl (RD.addW (a := ((s8f tt) 3)) (b := ((((((s8f tt) 7) + (((rotr ((s8f tt) 4) 6) ^^^ (rotr ((s8f tt) 4) 11)) ^^^ (rotr ((s8f tt) 4) 25))) + ((((s8f tt) 4) &&& ((s8f tt) 5)) ^^^ ((~~~((s8f tt) 4)) &&& ((s8f tt) 6)))) + ((gtf shaK) x.1)) + x.2)) rfl rfl) (qm rfl (qq rfl (RD.as (v := .pointer (some ⟨b5, 5, none⟩)) (RD.indexAddrA runUnderlying151 sizeOf73 rfl rfl (by decide) (by decide)) rfl) (ql rfl (RD.load (i := 0) (v := .int .u32 (((s8f tt) 5).toNat : Int)) isAgg73 rfl rfl (wf_cell 5 (by decide))) ?_)))))))))
  refine qq rfl (RD.as (v := .pointer (some ⟨b5, 6, none⟩)) (RD.indexAddrA runUnderlying151 sizeOf73 rfl rfl (by decide) (by decide)) rfl) (ql rfl (RD.load (i := 0) (v := .int .u32 (((s8f tt) 6).toNat : Int)) isAgg73 rfl rfl (wf_cell 6 (by decide))) (qq rfl (RD.build (v := wfV 8 (w8 (((((((s8f tt) 7) + (((rotr ((s8f tt) 4) 6) ^^^ (rotr ((s8f tt) 4) 11)) ^^^ (rotr ((s8f tt) 4) 25))) + ((((s8f tt) 4) &&& ((s8f tt) 5)) ^^^ ((~~~((s8f tt) 4)) &&& ((s8f tt) 6)))) + ((gtf shaK) x.1)) + x.2) + ((((rotr ((s8f tt) 0) 2) ^^^ (rotr ((s8f tt) 0) 13)) ^^^ (rotr ((s8f tt) 0) 22)) + (((((s8f tt) 0) &&& ((s8f tt) 1)) ^^^ (((s8f tt) 0) &&& ((s8f tt) 2))) ^^^ (((s8f tt) 1) &&& ((s8f tt) 2))))) ((s8f tt) 0) ((s8f tt) 1) ((s8f tt) 2) (((s8f tt) 3) + ((((((s8f tt) 7) + (((rotr ((s8f tt) 4) 6) ^^^ (rotr ((s8f tt) 4) 11)) ^^^ (rotr ((s8f tt) 4) 25))) + ((((s8f tt) 4) &&& ((s8f tt) 5)) ^^^ ((~~~((s8f tt) 4)) &&& ((s8f tt) 6)))) + ((gtf shaK) x.1)) + x.2)) ((s8f tt) 4) ((s8f tt) 5) ((s8f tt) 6))) rfl (fun w => bd_w8 _ _ _ _ _ _ _ _ w)) (TE_putCW 0 _ _ ((b5, .cells (wfV 8 (w8 (((((((s8f tt) 7) + (((rotr ((s8f tt) 4) 6) ^^^ (rotr ((s8f tt) 4) 11)) ^^^ (rotr ((s8f tt) 4) 25))) + ((((s8f tt) 4) &&& ((s8f tt) 5)) ^^^ ((~~~((s8f tt) 4)) &&& ((s8f tt) 6)))) + ((gtf shaK) x.1)) + x.2) + ((((rotr ((s8f tt) 0) 2) ^^^ (rotr ((s8f tt) 0) 13)) ^^^ (rotr ((s8f tt) 0) 22)) + (((((s8f tt) 0) &&& ((s8f tt) 1)) ^^^ (((s8f tt) 0) &&& ((s8f tt) 2))) ^^^ (((s8f tt) 1) &&& ((s8f tt) 2))))) ((s8f tt) 0) ((s8f tt) 1) ((s8f tt) 2) (((s8f tt) 3) + ((((((s8f tt) 7) + (((rotr ((s8f tt) 4) 6) ^^^ (rotr ((s8f tt) 4) 11)) ^^^ (rotr ((s8f tt) 4) 25))) + ((((s8f tt) 4) &&& ((s8f tt) 5)) ^^^ ((~~~((s8f tt) 4)) &&& ((s8f tt) 6)))) + ((gtf shaK) x.1)) + x.2)) ((s8f tt) 4) ((s8f tt) 5) ((s8f tt) 6))).cells 151 (0, 0)) :: (b4, .cells (wfV 8 (fun _ => 0)).cells 151 (0, 0)) :: (b2, .cells (wfV 8 (s8f s)).cells 151 (0, 0)) :: (1, .cells (wfV 64 (gtf shaK)).cells 286 (0, 0)) :: R) rfl sizeOf151 trivial rfl rfl rfl (wf_one 8 _) rfl rfl rfl rfl (.inr (by simp [keys])) ?_)))
  have he17 : (wfV 8 (w8 (((((((s8f tt) 7) + (((rotr ((s8f tt) 4) 6) ^^^ (rotr ((s8f tt) 4) 11)) ^^^ (rotr ((s8f tt) 4) 25))) + ((((s8f tt) 4) &&& ((s8f tt) 5)) ^^^ ((~~~((s8f tt) 4)) &&& ((s8f tt) 6)))) + ((gtf shaK) x.1)) + x.2) + ((((rotr ((s8f tt) 0) 2) ^^^ (rotr ((s8f tt) 0) 13)) ^^^ (rotr ((s8f tt) 0) 22)) + (((((s8f tt) 0) &&& ((s8f tt) 1)) ^^^ (((s8f tt) 0) &&& ((s8f tt) 2))) ^^^ (((s8f tt) 1) &&& ((s8f tt) 2))))) ((s8f tt) 0) ((s8f tt) 1) ((s8f tt) 2) (((s8f tt) 3) + ((((((s8f tt) 7) + (((rotr ((s8f tt) 4) 6) ^^^ (rotr ((s8f tt) 4) 11)) ^^^ (rotr ((s8f tt) 4) 25))) + ((((s8f tt) 4) &&& ((s8f tt) 5)) ^^^ ((~~~((s8f tt) 4)) &&& ((s8f tt) 6)))) + ((gtf shaK) x.1)) + x.2)) ((s8f tt) 4) ((s8f tt) 5) ((s8f tt) 6))).cells = (wfV 8 (s8f (shaStep tt (gtf shaK x.1) x.2))).cells := rfl
  exact TE_sp ((b5, .cells (wfV 8 (s8f (shaStep tt (gtf shaK x.1) x.2))).cells 151 (0, 0)) :: (b4, .cells (wfV 8 (fun _ => 0)).cells 151 (0, 0)) :: (b2, .cells (wfV 8 (s8f s)).cells 151 (0, 0)) :: (1, .cells (wfV 64 (gtf shaK)).cells 286 (0, 0)) :: R) (fun a => by rw [he17]; exact Nat.le_refl _) (n0 (pn_endR (σ := S8) (HJ := (fun (q : S8) => [(b5, .cells (wfV 8 (s8f q)).cells 151 (0, 0))])) (s := tt) (l := l1) (R := R) (shaStep tt (gtf shaK x.1) x.2) rfl (show (shaStep tt (gtf shaK x.1) x.2) = shaRun s l (pre ++ [x]).length from (sha_end hx ht)) (fun w h => h.sp (fun a => by simp -failIfUnchanged <;> omega)) (by intro e he; refine Or.inl (?_ : e.1 ∈ keys [(b5, .cells (wfV 8 (s8f tt)).cells 151 (0, 0))]); simp only [keys, List.map_cons, List.map_nil, List.mem_cons, List.not_mem_nil, or_false] at he ⊢; rcases he with rfl <;> simp)))
 ·rintro D HI' tt hD ht rfl
  refine sq (sq (plG [] [(b5, .cells (wfV 8 (s8f tt)).cells 151 (0, 0)), (D, .deferred (some [])), (b4, .cells (wfV 8 (fun _ => 0)).cells 151 (0, 0)), (b2, .cells (wfV 8 (s8f s)).cells 151 (0, 0)), (1, .cells (wfV 64 (gtf shaK)).cells 286 (0, 0))] (qm rfl (n0 (pn_block (pn_sp [(b5, .cells (wfV 8 (addTo 0 (s8f tt) (s8f s))).cells 151 (0, 0)), (D, .deferred (some [])), (b4, .cells (wfV 8 (fun _ => 0)).cells 151 (0, 0)), (b2, .cells (wfV 8 (s8f s)).cells 151 (0, 0)), (1, .cells (wfV 64 (gtf shaK)).cells 286 (0, 0))] (fun a => by rw [addTo_0]; exact Nat.le_refl _) (lpS (σ := Nat) (fun q => [(2, .pointer (some ⟨b2, 0, none⟩)), (4, .pointer (some ⟨b4, 0, none⟩)), (5, .pointer (some ⟨b5, 0, none⟩)), (96, .int .i64 (q : Int))]) (fun q => [(b5, .cells (wfV 8 (addTo q (s8f tt) (s8f s))).cells 151 (0, 0)), (D, .deferred (some [])), (b4, .cells (wfV 8 (fun _ => 0)).cells 151 (0, 0)), (b2, .cells (wfV 8 (s8f s)).cells 151 (0, 0)), (1, .cells (wfV 64 (gtf shaK)).cells 286 (0, 0))]) (fun q => (q ≤ 8)) (fun q => 8 - q) 0 (by omega) ⟨rfl, rfl, rfl, rfl, trivial⟩ ?_)))))))
  rintro i hi
  refine sq (pl (qq rfl (RD.lss rfl rfl) (n0 (sq (pn_condD rfl (fun hc18 => ?_) (fun hc18 => ?_))))))
  ·refine sk (sq (pn_block (sq (pl (qm rfl (qa rfl (n0 (dG [5] [(b5, .cells (wfV 8 (addTo i (s8f tt) (s8f s))).cells 151 (0, 0))] [(D, .deferred (some [])), (b4, .cells (wfV 8 (fun _ => 0)).cells 151 (0, 0)), (b2, .cells (wfV 8 (s8f s)).cells 151 (0, 0)), (1, .cells (wfV 64 (gtf shaK)).cells 286 (0, 0))] (qm rfl ?_)))))))))
   refine qq rfl (RD.indexAddrA runUnderlying151 sizeOf73 rfl rfl (by omega) (by omega)) (ql rfl (RD.load (i := 0) (v := .int .u32 (((addTo i (s8f tt) (s8f s)) i).toNat : Int)) isAgg73 rfl rfl (wf_get i (by omega) (by omega))) (qm rfl (qq rfl (RD.indexAddrA runUnderlying151 sizeOf73 rfl rfl (by omega) (by omega)) (qq rfl (RD.load (i := 2) (v := .int .u32 (((s8f s) i).toNat : Int)) isAgg73 rfl rfl (wf_get i (by omega) (by omega))) (qq rfl (RD.addW (a := ((addTo i (s8f tt) (s8f s)) i)) (b := ((s8f s) i)) rfl rfl) (qq rfl (RD.indexAddrA runUnderlying151 sizeOf73 rfl rfl (by omega) (by omega)) (TE_storeC 0 _ _ [(b5, .cells (wfV 8 (upd (addTo i (s8f tt) (s8f s)) i (((addTo i (s8f tt) (s8f s)) i) + ((s8f s) i)))).cells 151 (0, 0))] rfl sizeOf73 trivial rfl rfl rfl rfl rfl (wf_lt i (by omega) (by omega)) (wf_put i (by omega) (((addTo i (s8f tt) (s8f s)) i) + ((s8f s) i))) rfl (.inl hb5) ?_)))))))
   have he19 : (wfV 8 (upd (addTo i (s8f tt) (s8f s)) i (((addTo i (s8f tt) (s8f s)) i) + ((s8f s) i)))).cells = (wfV 8 (addTo (i + 1) (s8f tt) (s8f s))).cells := addTo_next
   exact TE_sp [(b5, .cells (wfV 8 (addTo (i + 1) (s8f tt) (s8f s))).cells 151 (0, 0))] (fun a => by rw [he19]; exact Nat.le_refl _) (TE_nil (plG [] [(b5, .cells (wfV 8 (addTo (i + 1) (s8f tt) (s8f s))).cells 151 (0, 0)), (D, .deferred (some [])), (b4, .cells (wfV 8 (fun _ => 0)).cells 151 (0, 0)), (b2, .cells (wfV 8 (s8f s)).cells 151 (0, 0)), (1, .cells (wfV 64 (gtf shaK)).cells 286 (0, 0))] (qq rfl (RD.addI rfl rfl (by omega) (by omega)) (qm rfl (n0 (agS (i + 1) (by omega) (by omega) ⟨rfl, rfl, rfl, rfl, trivial⟩))))))
  ·exact xt (sq (pl (ql rfl (RD.loadA (i := 0) isAgg151 sizeOf151 rfl rfl (Nat.le_of_ble_eq_true rfl) (wf_all 8 _)) (TE_putCW 2 _ _ [(b5, .cells (wfV 8 (addTo i (s8f tt) (s8f s))).cells 151 (0, 0)), (D, .deferred (some [])), (b4, .cells (wfV 8 (addTo i (s8f tt) (s8f s))).cells 151 (0, 0)), (b2, .cells (wfV 8 (s8f s)).cells 151 (0, 0)), (1, .cells (wfV 64 (gtf shaK)).cells 286 (0, 0))] rfl sizeOf151 trivial rfl rfl rfl (wf_one 8 _) rfl rfl rfl rfl (.inl hb4) (n0 (rt (pn_doneFC D [(b5, .cells (wfV 8 (addTo i (s8f tt) (s8f s))).cells 151 (0, 0)), (b4, .cells (wfV 8 (addTo i (s8f tt) (s8f s))).cells 151 (0, 0)), (b2, .cells (wfV 8 (s8f s)).cells 151 (0, 0)), (1, .cells (wfV 64 (gtf shaK)).cells 286 (0, 0))] (fun a => by simp -failIfUnchanged <;> omega) rfl ⟨wfV 8 (addTo i (s8f tt) (s8f s)), _, b4, 0, rfl, rfl, load_agg (i := 1) isAgg151 sizeOf151 rfl (Nat.le_of_ble_eq_true rfl) (wf_all 8 _), rfl⟩ ⟨(by obtain rfl : i = 8 := (by omega); rw [addTo_8, ht, shaPairs_len]; rfl), rfl⟩ (fun _ h => h.sp (fun _ => Nat.zero_le _)) (fun _ he => nomatch he) hD)))))))
 ·rintro D HI' c pre q hD hpre hS; exact hS.elim
end Go.Proofs.YtcmnmigcalibdaaGreatDoor

namespace Go.Proofs.YtcmnmigcalibdaaGreatDoor
open Go.Proofs.Tryz
open Go Go.Mv
set_option maxRecDepth 8000
theorem c_equalE (xsv : Value) (xs : List Ent) (ysv : Value) (ys : List Ent) (HX : Mem) (w : World) (hbxs : Rdx 34 (entC) HX xsv xs) (hlxs : xs.length ≤ 1000000) (hbys : Rdx 34 (entC) HX ysv ys) (hlys : ys.length ≤ 1000000) (hH : Hp HX w) : Calls Tryz.prog 181 #[xsv, ysv] w (Ret w [] fun v H1 => v = .bool (sameGL same_ent xs ys) ∧ H1 = []) := by
 refine fn_enter (args := [_, _]) func181 rfl ntmps181 rfl hH (sq (pl (qa rfl (n0 (sq (sq (pn_plain [1, 3] rfl (qm rfl (qq rfl (RD.lenX runUnderlying58 rfl hbxs) ?_)))))))))
 refine qm rfl (qq rfl (RD.lenX runUnderlying58 rfl hbys) (qq rfl (RD.neq rfl rfl) (n0 (pn_condN rfl (fun hc1 => ?_) (fun hc1 => ?_)))))
 ·exact sq (plG [] [] (qa rfl (n0 (rt (pn_doneS [] rfl rfl ⟨(congrArg Value.bool (sameG_len (by omega)).symm), rfl⟩ (fun _ => Nat.zero_le _) (fun _ he => nomatch he))))))
 ·refine sk (sq (sq (pn_plain [1] rfl (qm rfl (qq rfl (RD.lenX runUnderlying58 rfl hbxs) (qm rfl (n0 (pn_block (lpS (σ := Nat) (fun q => [(0, xsv), (1, ysv), (12, .int .i64 (xs.length : Int)), (13, .int .i64 (q : Int))]) (fun q => HX) (fun q => (q ≤ xs.length) ∧ (∀ j, j < q → same_ent (gt xs j) (gt ys j) = true)) (fun q => xs.length - q) 0 ⟨(by omega), (fun j hj => absurd hj (Nat.not_lt_zero _))⟩ ⟨rfl, rfl, rfl, rfl, trivial⟩ ?_)))))))))
  rintro i ⟨hi, hall⟩
  refine sq (pl (qq rfl (RD.lss rfl rfl) (n0 (sq (pn_condD rfl (fun hc2 => ?_) (fun hc2 => ?_))))))
  ·refine sk (sq (pn_block (sq (pl (qm rfl (qa rfl (n0 (sq (dG [3, 7] [] HX ?_)))))))))
   refine qm rfl (qm rfl (qq rfl (RD.idxR (i := i) (o := (i * 34 + 0)) runUnderlying58 sizeOf119 rfl hbxs rfl rfl (by omega) (by rfl)) (qq rfl (RD.ldRA (i := i) (j := 0) (vs := (entC (gt xs i))) isAgg119 sizeOf119 rfl hbxs (gt_some (by omega)) (by rfl) rfl (fun _ _ hu => by rw [Nat.zero_add]; exact hu) (entC_agg _) sb) (qm rfl (qm rfl (qq rfl (RD.idxR (i := i) (o := (i * 34 + 0)) runUnderlying58 sizeOf119 rfl hbys rfl rfl (by omega) (by rfl)) (qq rfl (RD.ldRA (i := i) (j := 0) (vs := (entC (gt ys i))) isAgg119 sizeOf119 rfl hbys (gt_some (by omega)) (by rfl) rfl (fun _ _ hu => by rw [Nat.zero_add]; exact hu) (entC_agg _) sb) (qq rfl (RD.neq_agg eqGuardType119 (eq_ent (gt xs i) (gt ys i)) rfl rfl) (TE_nil ?_)))))))))
   refine pn_cond rfl (fun hc3 => ?_) (fun hc3 => ?_)
   ·simp only [Bool.not_eq_true'] at hc3
    exact sq (plG [] [] (qa rfl (n0 (rt (pn_doneS [] rfl rfl ⟨(congrArg Value.bool (sameG_F (f := same_ent) (i := i) (by omega) (by omega) (by assumption)).symm), rfl⟩ (fun _ => Nat.zero_le _) (fun _ he => nomatch he))))))
   ·simp only [Bool.not_eq_false'] at hc3
    exact sk (plG [] HX (qq rfl (RD.addI rfl rfl (by omega) (by omega)) (qm rfl (n0 (agS (i + 1) ⟨(by omega), (fun j hj => by rcases Nat.lt_or_ge j i with h | h; exact hall j h; obtain rfl : j = i := (by omega); assumption)⟩ (by omega) ⟨rfl, rfl, rfl, rfl, trivial⟩)))))
  ·exact xt (sq (plG [] [] (qa rfl (n0 (rt (pn_doneS [] rfl rfl ⟨(congrArg Value.bool (sameG_T (f := same_ent) (by omega) fun j hj => hall j (by omega)).symm), rfl⟩ (fun _ => Nat.zero_le _) (fun _ he => nomatch he)))))))
theorem c_equalI (xsv : Value) (xs : List ((Nat → Int))) (ysv : Value) (ys : List ((Nat → Int))) (HX : Mem) (w : World) (hbxs : Rdx 32 (idC) HX xsv xs) (hlxs : xs.length ≤ 1000000) (hbys : Rdx 32 (idC) HX ysv ys) (hlys : ys.length ≤ 1000000) (hH : Hp HX w) : Calls Tryz.prog 182 #[xsv, ysv] w (Ret w [] fun v H1 => v = .bool (sameIL xs ys) ∧ H1 = []) := by
 refine fn_enter (args := [_, _]) func182 rfl ntmps182 rfl hH (sq (pl (qa rfl (n0 (sq (sq (pn_plain [1, 3] rfl (qm rfl (qq rfl (RD.lenX runUnderlying41 rfl hbxs) ?_)))))))))
 refine qm rfl (qq rfl (RD.lenX runUnderlying41 rfl hbys) (qq rfl (RD.neq rfl rfl) (n0 (pn_condN rfl (fun hc1 => ?_) (fun hc1 => ?_)))))
 ·exact sq (plG [] [] (qa rfl (n0 (rt (pn_doneS [] rfl rfl ⟨(congrArg Value.bool (((sameG_len (by omega)).symm).trans (sameIG_eq _ _).symm)), rfl⟩ (fun _ => Nat.zero_le _) (fun _ he => nomatch he))))))
 ·refine sk (sq (sq (pn_plain [1] rfl (qm rfl (qq rfl (RD.lenX runUnderlying41 rfl hbxs) (qm rfl (n0 (pn_block (lpS (σ := Nat) (fun q => [(0, xsv), (1, ysv), (12, .int .i64 (xs.length : Int)), (13, .int .i64 (q : Int))]) (fun q => HX) (fun q => (q ≤ xs.length) ∧ (∀ j, j < q → (sameN 32) (gt xs j) (gt ys j) = true)) (fun q => xs.length - q) 0 ⟨(by omega), (fun j hj => absurd hj (Nat.not_lt_zero _))⟩ ⟨rfl, rfl, rfl, rfl, trivial⟩ ?_)))))))))
  rintro i ⟨hi, hall⟩
  refine sq (pl (qq rfl (RD.lss rfl rfl) (n0 (sq (pn_condD rfl (fun hc2 => ?_) (fun hc2 => ?_))))))
  ·refine sk (sq (pn_block (sq (pl (qm rfl (qa rfl (n0 (sq (dG [3, 7] [] HX ?_)))))))))
   refine qm rfl (qm rfl (qq rfl (RD.idxR (i := i) (o := (i * 32 + 0)) runUnderlying41 sizeOf35 rfl hbxs rfl rfl (by omega) (by rfl)) (qq rfl (RD.ldRA (i := i) (j := 0) (vs := (idC (gt xs i))) isAgg35 sizeOf35 rfl hbxs (gt_some (by omega)) (by rfl) rfl (fun _ _ hu => by rw [Nat.zero_add]; exact hu) (idC_agg _) sb) (qm rfl (qm rfl (qq rfl (RD.idxR (i := i) (o := (i * 32 + 0)) runUnderlying41 sizeOf35 rfl hbys rfl rfl (by omega) (by rfl)) (qq rfl (RD.ldRA (i := i) (j := 0) (vs := (idC (gt ys i))) isAgg35 sizeOf35 rfl hbys (gt_some (by omega)) (by rfl) rfl (fun _ _ hu => by rw [Nat.zero_add]; exact hu) (idC_agg _) sb) (qq rfl (RD.neq_agg eqGuardType35 (eq_id (gt xs i) (gt ys i)) rfl rfl) (TE_nil ?_)))))))))
   refine pn_cond rfl (fun hc3 => ?_) (fun hc3 => ?_)
   ·simp only [Bool.not_eq_true'] at hc3
    exact sq (plG [] [] (qa rfl (n0 (rt (pn_doneS [] rfl rfl ⟨(congrArg Value.bool (((sameG_F (f := (sameN 32)) (i := i) (by omega) (by omega) (by assumption)).symm).trans (sameIG_eq _ _).symm)), rfl⟩ (fun _ => Nat.zero_le _) (fun _ he => nomatch he))))))
   ·simp only [Bool.not_eq_false'] at hc3
    exact sk (plG [] HX (qq rfl (RD.addI rfl rfl (by omega) (by omega)) (qm rfl (n0 (agS (i + 1) ⟨(by omega), (fun j hj => by rcases Nat.lt_or_ge j i with h | h; exact hall j h; obtain rfl : j = i := (by omega); assumption)⟩ (by omega) ⟨rfl, rfl, rfl, rfl, trivial⟩)))))
  ·exact xt (sq (plG [] [] (qa rfl (n0 (rt (pn_doneS [] rfl rfl ⟨(congrArg Value.bool (((sameG_T (f := (sameN 32)) (by omega) fun j hj => hall j (by omega)).symm).trans (sameIG_eq _ _).symm)), rfl⟩ (fun _ => Nat.zero_le _) (fun _ he => nomatch he)))))))
theorem c_bytesEqual (xsv : Value) (xs : List UInt8) (ysv : Value) (ys : List UInt8) (HX : Mem) (w : World) (hbxs : Rdb HX xsv xs) (hbys : Rdb HX ysv ys) (hH : Hp HX w) : Calls Tryz.prog 180 #[xsv, ysv] w (Ret w [] fun v H1 => v = .bool (decide (xs = ys)) ∧ H1 = []) := by
 refine fn_enter (args := [_, _]) func180 rfl ntmps180 rfl hH (sq (pl (qa rfl (n0 (sq (pl (qm rfl (ql rfl (RD.str_of_bytes underlying32 underlying9 underlying5 rfl (BytesIn.s (hbxs).bytes)) (qm rfl ?_)))))))))
 exact ql rfl (RD.str_of_bytes underlying32 underlying9 underlying5 rfl (BytesIn.s (hbys).bytes)) (qq rfl (RD.eql_string rfl rfl) (qa rfl (n0 (rt (pn_doneS [] rfl rfl ⟨(congrArg Value.bool (decide_eq_decide.2 ba_eq)), rfl⟩ (fun _ => Nat.zero_le _) (fun _ he => nomatch he))))))
end Go.Proofs.YtcmnmigcalibdaaGreatDoor

namespace Go.Proofs.YtcmnmigcalibdaaGreatDoor
open Go Go.Mv
set_option maxRecDepth 8000
theorem chkT {x : Ob} {e : Bool} (h : obOkB x = e) (hc : e = true) : (0 : Int) = err (obOkB x) 70 := by rw [h, hc]; rfl
theorem chkF {x : Ob} {e : Bool} (h : obOkB x = e) (hc : e = false) : (70 : Int) = err (obOkB x) 70 := by rw [h, hc]; rfl
theorem idZ_symm (t : Nat → Int) : sameN 32 zId t = idZ t := by
  rw [Bool.eq_iff_iff, idZ, sameN_iff, sameN_iff]
  exact ⟨fun h i hi => (h i hi).symm, fun h i hi => (h i hi).symm⟩
theorem zLnk_same (g : Lnk) : same_lnk zLnk g = (decide (g.k = 0) && idZ g.id) := by
  simp only [same_lnk, zLnk, idZ_symm, Bool.and_true]
  congr 1
  exact decide_eq_decide.2 ⟨Eq.symm, Eq.symm⟩
theorem nilI_same (l : List (Nat → Int)) : sameIL [] l = !decide (0 < (l.length : Int)) := by
  cases l with
  | nil => rfl
  | cons a l => rw [show sameIL [] (a :: l) = false from rfl, decide_eq_true (by simp)]; rfl
theorem nilD_same (l : List UInt8) : decide ([] = l) = !decide (0 < (l.length : Int)) := by
  cases l with
  | nil => rfl
  | cons a l => rw [decide_eq_true (p := 0 < ((a :: l).length : Int)) (by simp)]; rfl
theorem nilS_same (s : ByteArray) : decide (⟨#[]⟩ = s) = !decide (0 < (s.size : Int)) := by
  by_cases h : s.size = 0
  · obtain rfl : s = ⟨#[]⟩ := by
      apply ByteArray.ext
      exact Array.eq_empty_of_size_eq_zero h
    rfl
  · rw [decide_eq_true (p := 0 < (s.size : Int)) (by omega), decide_eq_false (fun e => h (by rw [← e]; rfl))]; rfl
theorem chk2 {x : Ob} (hk : x.k = 2) : obOkB x = (treeB x.ents && (!decide (0 < (x.data.length : Int)) && (!(decide (0 < (x.pars.length : Int)) || !idZ x.t) && (!decide (0 < (x.m.size : Int)) && (decide (x.tg.k = 0) && idZ x.tg.id))))) := by
  have h21 : ¬ (2 : Int) = 1 := by decide
  simp only [obOkB, mayB, bareOb, hk, h21, if_true, if_false, obSame, Bool.true_and, sameG_self same_ent_self, nilD_same, idZ_symm, nilI_same, zLnk_same, nilS_same, Bool.not_or, Bool.not_not]
  generalize treeB x.ents = a
  generalize decide (0 < (x.data.length : Int)) = b
  generalize idZ x.t = c
  generalize decide (0 < (x.pars.length : Int)) = d
  generalize decide (x.tg.k = 0) = e
  generalize idZ x.tg.id = f
  generalize decide (0 < (x.m.size : Int)) = g
  cases a <;> cases b <;> cases c <;> cases d <;> cases e <;> cases f <;> cases g <;> rfl
theorem chk0 {x : Ob} (h1 : ¬ x.k = 1) (h2 : ¬ x.k = 2) (h3 : ¬ x.k = 3) (h4 : ¬ x.k = 4) : obOkB x = false := by
  simp only [obOkB, mayB, h1, h2, h3, h4, if_false, Bool.false_and]

end Go.Proofs.YtcmnmigcalibdaaGreatDoor
