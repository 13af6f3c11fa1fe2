import Derived.Test.YtloljpefdecmhaaGreatDoorGam
namespace Go.Proofs.YtloljpefdecmhaaGreatDoor
open Go Go.Mv
set_option maxRecDepth 8000
theorem pairs_of {l : List UInt8} {pre : List (Nat × UInt32)} {x : Nat × UInt32} (h : (pre ++ [x]) <+: shaPairs l) : x = (pre.length, gt (shaWs l 64) pre.length) ∧ pre.length < 64 := by
  obtain ⟨r, hr⟩ := h
  have hl : pre.length < 64 := by
    have := congrArg List.length hr
    rw [shaPairs_len] at this; simp at this; omega
  have h1 := shaPairs_at l hl
  rw [← hr] at h1
  have h2 : ((pre ++ [x]) ++ r)[pre.length]? = some x := by simp
  rw [h2] at h1
  exact ⟨Option.some.inj h1, hl⟩
theorem sha_end {s tt : S8} {l : List UInt8} {pre : List (Nat × UInt32)} {x : Nat × UInt32} (hx : x = (pre.length, gt (shaWs l 64) pre.length)) (ht : tt = shaRun s l pre.length) : shaStep tt (gtf shaK x.1) x.2 = shaRun s l (pre ++ [x]).length := by
  subst ht
  rw [List.length_append]
  show _ = shaRun s l (pre.length + 1)
  rw [shaRun, hx]
  simp only [gtf]
def addTo (i : Nat) (f g : Nat → UInt32) : Nat → UInt32 := fun j => if j < i then f j + g j else f j
theorem addTo_0 (f g : Nat → UInt32) : addTo 0 f g = f := by funext j; simp [addTo]
theorem addTo_next {n i : Nat} {f g : Nat → UInt32} : (wfV n (upd (addTo i f g) i (addTo i f g i + g i))).cells = (wfV n (addTo (i + 1) f g)).cells := by
  congr 1
  apply wfV_congr
  intro j _
  by_cases h : j = i
  · subst h; rw [upd_same]; simp [addTo]
  · rw [upd_other h]; simp only [addTo]
    by_cases h1 : j < i
    · rw [if_pos h1, if_pos (by omega)]
    · rw [if_neg h1, if_neg (by omega)]
theorem addTo_8 (s tt : S8) : (wfV 8 (addTo 8 (s8f tt) (s8f s))) = (wfV 8 (s8f (addS8 s tt))) := by
  apply wfV_congr
  intro j hj
  simp only [addTo, if_pos hj]
  rcases (show j = 0 ∨ j = 1 ∨ j = 2 ∨ j = 3 ∨ j = 4 ∨ j = 5 ∨ j = 6 ∨ j = 7 by omega) with rfl | rfl | rfl | rfl | rfl | rfl | rfl | rfl <;> rfl

set_option maxHeartbeats 4000000 in
theorem c_mixed (s : S8) (l : List UInt8) (w : World) (hH : Hp [(1, .cells (wfV 64 (gtf shaK)).cells 217 (0, 0))] w) : Calls Tryz.prog 106 #[wfV 8 (s8f s), bfV 64 (gtf l)] w (Ret w [] fun v H1 => v = wfV 8 (s8f (shaMix s l)) ∧ H1 = []) := by
  refine fn_enter (args := [_, _]) Tryz.func106 rfl Tryz.ntmps106 rfl hH ?_
  refine pn_seq ?_
  refine pn_plain [] rfl ?_
  refine TE_boxC (wfV 8 (s8f s)).cells rfl rfl rfl trivial rfl fun b2 hb2 => ?_
  refine TE_boxC (bfV 64 (gtf l)).cells rfl rfl rfl trivial rfl fun b3 hb3 => ?_
  refine TE_allocC (wfV 8 (fun _ => 0)).cells rfl Tryz.zeroValue107 (by kernel_rfl) trivial rfl fun b4 hb4 => ?_
  refine TE_nil0 ?_
  refine pn_seq ?_
  refine pn_plain [] rfl ?_
  refine TE_l rfl rfl trivial rfl (RD.loadA (i := 2) Tryz.isAgg107 Tryz.sizeOf107 rfl rfl (Nat.le_of_ble_eq_true rfl) (wf_all 8 _)) rfl ?_
  refine TE_allocC (wfV 8 (fun _ => 0)).cells rfl Tryz.zeroValue107 (by kernel_rfl) trivial rfl fun b5 hb5 => ?_
  refine TE_putCW 0 (wfV 8 (fun _ => 0)).cells (wfV 8 (s8f s)).cells [(b5, .cells (wfV 8 (s8f s)).cells 107 (0, 0)), (b4, .cells (wfV 8 (fun _ => 0)).cells 107 (0, 0)), (b3, .cells (bfV 64 (gtf l)).cells 172 (0, 0)), (b2, .cells (wfV 8 (s8f s)).cells 107 (0, 0)), (1, .cells (wfV 64 (gtf shaK)).cells 217 (0, 0))] rfl Tryz.sizeOf107 trivial rfl rfl rfl (wf_one 8 _) rfl rfl rfl rfl (.inl hb5) ?_
  refine TE_nil0 ?_
  refine pn_seq ?_
  refine pn_seq ?_
  refine pn_plain [] rfl ?_
  refine TE_l rfl rfl trivial rfl (RD.loadA (i := 2) Tryz.isAgg172 Tryz.sizeOf172 rfl rfl (Nat.le_of_ble_eq_true rfl) (bf_all 64 _)) rfl ?_
  refine TE_callG _ [] rfl rfl trivial Tryz.call134 rfl rfl rfl (fun w hw => c_spread l w (hw.sp (fun a => by simp -failIfUnchanged <;> omega))) (fun a => by simp -failIfUnchanged <;> omega) ?_
  rintro v3 H4 ⟨bx1, rfl, rfl⟩ hX2
  refine TE_sp [(bx1, .cells (bfV 64 (gtf l)).cells 172 (0, 0)), (b5, .cells (wfV 8 (s8f s)).cells 107 (0, 0)), (b4, .cells (wfV 8 (fun _ => 0)).cells 107 (0, 0)), (b3, .cells (bfV 64 (gtf l)).cells 172 (0, 0)), (b2, .cells (wfV 8 (s8f s)).cells 107 (0, 0)), (1, .cells (wfV 64 (gtf shaK)).cells 217 (0, 0))] (fun a => by simp -failIfUnchanged <;> omega) ?_
  refine TE_nil0 ?_
  refine pn_block ?_
  refine pn_rangeH (τ := Unit) (HI := [(bx1, .cells (bfV 64 (gtf l)).cells 172 (0, 0))]) (HR := [(b4, .cells (wfV 8 (fun _ => 0)).cells 107 (0, 0)), (b2, .cells (wfV 8 (s8f s)).cells 107 (0, 0)), (1, .cells (wfV 64 (gtf shaK)).cells 217 (0, 0))]) (it_spread bx1 l) (fun (q : S8) => [(b5, .cells (wfV 8 (s8f q)).cells 107 (0, 0))]) (fun pre (q : S8) => (q = shaRun s l pre.length)) (fun _ _ _ => False) s rfl rfl Tryz.call154 (by intro x; rfl) rfl (fun w h => h.sp (fun a => by simp -failIfUnchanged <;> omega)) (by show ∀ e ∈ ([(bx1, .cells (bfV 64 (gtf l)).cells 172 (0, 0)), (b5, .cells (wfV 8 (s8f s)).cells 107 (0, 0))] : Mem), _; exact (ownC (.inl (hX2 _ List.mem_cons_self)) (ownC (.inl hb5) own0))) (fun x _ => [(5, .pointer (some ⟨b5, 0, none⟩)), (6, .int .i64 (x.1 : Int)), (7, .int .u32 (x.2.toNat : Int)), (18, .int .i64 (x.1 : Int)), (19, .int .u32 (x.2.toNat : Int))]) (fun _ _ => []) (fun _ _ => True) ?_ ?_ ?_ ?_
  · intro W l1 pre x q R hW hG hpre
    refine pn_seq ?_
    refine pn_plain [] rfl ?_
    refine TE_q rfl rfl (RD.assign rfl) rfl ?_
    refine TE_nil0 ?_
    refine pn_plain [] rfl ?_
    refine TE_q rfl rfl (RD.assign rfl) rfl ?_
    refine TE_nil0 ?_
    exact fun a w hr hs => ⟨(), trivial, hr.keeps ⟨rfl, rfl, rfl, rfl, rfl, trivial⟩, hs⟩
  · rintro W l1 pre x tt _ R hW ht hpre -
    obtain ⟨hx, hxl⟩ := pairs_of hpre
    have hx1 : x.1 < 64 := by rw [hx]; exact hxl
    refine pn_block ?_
    refine pn_seq ?_
    refine pn_drawG [1, 3] [] ((b5, .cells (wfV 8 (s8f tt)).cells 107 (0, 0)) :: (b4, .cells (wfV 8 (fun _ => 0)).cells 107 (0, 0)) :: (b2, .cells (wfV 8 (s8f s)).cells 107 (0, 0)) :: (1, .cells (wfV 64 (gtf shaK)).cells 217 (0, 0)) :: R) rfl rfl (by kernel_rfl) (fun a => by simp -failIfUnchanged <;> omega) ?_
    refine TE_q rfl rfl (RD.as (v := .pointer (some ⟨b5, 0, none⟩)) (RD.indexAddrA Tryz.runUnderlying107 Tryz.sizeOf106 rfl rfl (by decide) (by decide)) rfl) rfl ?_
    refine TE_q rfl rfl (RD.load (i := 0) (v := .int .u32 (((s8f tt) 0).toNat : Int)) Tryz.isAgg106 rfl rfl (wf_cell 0 (by decide))) rfl ?_
    refine TE_q rfl rfl (RD.as (v := .pointer (some ⟨b5, 4, none⟩)) (RD.indexAddrA Tryz.runUnderlying107 Tryz.sizeOf106 rfl rfl (by decide) (by decide)) rfl) rfl ?_
    refine TE_q rfl rfl (RD.load (i := 0) (v := .int .u32 (((s8f tt) 4).toNat : Int)) Tryz.isAgg106 rfl rfl (wf_cell 4 (by decide))) rfl ?_
    refine TE_q rfl rfl (RD.assign rfl) rfl ?_
    refine TE_q rfl rfl (RD.assign rfl) rfl ?_
    refine TE_nil ?_
    refine pn_seq ?_
    refine pn_plainG [] ((b5, .cells (wfV 8 (s8f tt)).cells 107 (0, 0)) :: (b4, .cells (wfV 8 (fun _ => 0)).cells 107 (0, 0)) :: (b2, .cells (wfV 8 (s8f s)).cells 107 (0, 0)) :: (1, .cells (wfV 64 (gtf shaK)).cells 217 (0, 0)) :: R) rfl (fun a => by simp -failIfUnchanged <;> omega) ?_
    refine TE_q rfl rfl (RD.move rfl) rfl ?_
    refine TE_callG _ [] rfl rfl trivial Tryz.call135 rfl rfl rfl (fun w hw => c_rotl ((s8f tt) 4) 6 w (by decide) (by decide) (hw.sp (fun a => by simp -failIfUnchanged <;> omega))) (fun a => by simp -failIfUnchanged <;> omega) ?_
    rintro v5 H6 ⟨rfl, rfl⟩ -
    refine TE_q rfl rfl (RD.move rfl) rfl ?_
    refine TE_callG _ [] rfl rfl trivial Tryz.call135 rfl rfl rfl (fun w hw => c_rotl ((s8f tt) 4) 11 w (by decide) (by decide) (hw.sp (fun a => by simp -failIfUnchanged <;> omega))) (fun a => by simp -failIfUnchanged <;> omega) ?_
    rintro v7 H8 ⟨rfl, rfl⟩ -
    refine TE_q rfl rfl (RD.xorW (a := (rotr ((s8f tt) 4) 6)) (b := (rotr ((s8f tt) 4) 11)) rfl rfl) rfl ?_
    refine TE_q rfl rfl (RD.move rfl) rfl ?_
    refine TE_callG _ [] rfl rfl trivial Tryz.call135 rfl rfl rfl (fun w hw => c_rotl ((s8f tt) 4) 25 w (by decide) (by decide) (hw.sp (fun a => by simp -failIfUnchanged <;> omega))) (fun a => by simp -failIfUnchanged <;> omega) ?_
    rintro v9 H10 ⟨rfl, rfl⟩ -
    refine TE_q rfl rfl (RD.xorW (a := ((rotr ((s8f tt) 4) 6) ^^^ (rotr ((s8f tt) 4) 11))) (b := (rotr ((s8f tt) 4) 25)) rfl rfl) rfl ?_
    refine TE_q rfl rfl (RD.assign rfl) rfl ?_
    refine TE_nil0 ?_
    refine pn_seq ?_
    refine pn_drawG [1, 6, 11, 17] [] ((b5, .cells (wfV 8 (s8f tt)).cells 107 (0, 0)) :: (b4, .cells (wfV 8 (fun _ => 0)).cells 107 (0, 0)) :: (b2, .cells (wfV 8 (s8f s)).cells 107 (0, 0)) :: (1, .cells (wfV 64 (gtf shaK)).cells 217 (0, 0)) :: R) rfl rfl (by kernel_rfl) (fun a => by simp -failIfUnchanged <;> omega) ?_
    refine TE_q rfl rfl (RD.as (v := .pointer (some ⟨b5, 7, none⟩)) (RD.indexAddrA Tryz.runUnderlying107 Tryz.sizeOf106 rfl rfl (by decide) (by decide)) rfl) rfl ?_
    refine TE_q rfl rfl (RD.load (i := 0) (v := .int .u32 (((s8f tt) 7).toNat : Int)) Tryz.isAgg106 rfl rfl (wf_cell 7 (by decide))) rfl ?_
    refine TE_q rfl rfl (RD.move rfl) rfl ?_
    refine TE_q rfl rfl (RD.addW (a := ((s8f tt) 7)) (b := (((rotr ((s8f tt) 4) 6) ^^^ (rotr ((s8f tt) 4) 11)) ^^^ (rotr ((s8f tt) 4) 25))) rfl rfl) rfl ?_
    refine TE_q rfl rfl (RD.move rfl) rfl ?_
    refine TE_q rfl rfl (RD.as (v := .pointer (some ⟨b5, 5, none⟩)) (RD.indexAddrA Tryz.runUnderlying107 Tryz.sizeOf106 rfl rfl (by decide) (by decide)) rfl) rfl ?_
    refine TE_q rfl rfl (RD.load (i := 0) (v := .int .u32 (((s8f tt) 5).toNat : Int)) Tryz.isAgg106 rfl rfl (wf_cell 5 (by decide))) rfl ?_
    refine TE_q rfl rfl (RD.andW (a := ((s8f tt) 4)) (b := ((s8f tt) 5)) rfl rfl) rfl ?_
    refine TE_q rfl rfl (RD.move rfl) rfl ?_
    refine TE_q rfl rfl (RD.notW (a := ((s8f tt) 4)) rfl) rfl ?_
    refine TE_q rfl rfl (RD.as (v := .pointer (some ⟨b5, 6, none⟩)) (RD.indexAddrA Tryz.runUnderlying107 Tryz.sizeOf106 rfl rfl (by decide) (by decide)) rfl) rfl ?_
    refine TE_q rfl rfl (RD.load (i := 0) (v := .int .u32 (((s8f tt) 6).toNat : Int)) Tryz.isAgg106 rfl rfl (wf_cell 6 (by decide))) rfl ?_
    refine TE_q rfl rfl (RD.andW (a := (~~~((s8f tt) 4))) (b := ((s8f tt) 6)) rfl rfl) rfl ?_
    refine TE_q rfl rfl (RD.xorW (a := (((s8f tt) 4) &&& ((s8f tt) 5))) (b := ((~~~((s8f tt) 4)) &&& ((s8f tt) 6))) rfl rfl) rfl ?_
    refine TE_q rfl rfl (RD.addW (a := (((s8f tt) 7) + (((rotr ((s8f tt) 4) 6) ^^^ (rotr ((s8f tt) 4) 11)) ^^^ (rotr ((s8f tt) 4) 25)))) (b := ((((s8f tt) 4) &&& ((s8f tt) 5)) ^^^ ((~~~((s8f tt) 4)) &&& ((s8f tt) 6)))) rfl rfl) rfl ?_
    refine TE_q rfl rfl (RD.move rfl) rfl ?_
    refine TE_q rfl rfl (RD.indexAddrA Tryz.runUnderlying217 Tryz.sizeOf106 rfl rfl (by omega) (by omega)) rfl ?_
    refine TE_q rfl rfl (RD.load (i := 3) (v := .int .u32 (((gtf shaK) x.1).toNat : Int)) Tryz.isAgg106 rfl rfl (wf_get x.1 (by omega) (by omega))) rfl ?_
    refine TE_q rfl rfl (RD.addW (a := ((((s8f tt) 7) + (((rotr ((s8f tt) 4) 6) ^^^ (rotr ((s8f tt) 4) 11)) ^^^ (rotr ((s8f tt) 4) 25))) + ((((s8f tt) 4) &&& ((s8f tt) 5)) ^^^ ((~~~((s8f tt) 4)) &&& ((s8f tt) 6))))) (b := ((gtf shaK) x.1)) rfl rfl) rfl ?_
    refine TE_q rfl rfl (RD.move rfl) rfl ?_
    refine TE_q rfl rfl (RD.addW (a := (((((s8f tt) 7) + (((rotr ((s8f tt) 4) 6) ^^^ (rotr ((s8f tt) 4) 11)) ^^^ (rotr ((s8f tt) 4) 25))) + ((((s8f tt) 4) &&& ((s8f tt) 5)) ^^^ ((~~~((s8f tt) 4)) &&& ((s8f tt) 6)))) + ((gtf shaK) x.1))) (b := x.2) rfl rfl) rfl ?_
    refine TE_q rfl rfl (RD.assign rfl) rfl ?_
    refine TE_nil ?_
    refine pn_seq ?_
    refine pn_plainG [] ((b5, .cells (wfV 8 (s8f tt)).cells 107 (0, 0)) :: (b4, .cells (wfV 8 (fun _ => 0)).cells 107 (0, 0)) :: (b2, .cells (wfV 8 (s8f s)).cells 107 (0, 0)) :: (1, .cells (wfV 64 (gtf shaK)).cells 217 (0, 0)) :: R) rfl (fun a => by simp -failIfUnchanged <;> omega) ?_
    refine TE_q rfl rfl (RD.move rfl) rfl ?_
    refine TE_callG _ [] rfl rfl trivial Tryz.call135 rfl rfl rfl (fun w hw => c_rotl ((s8f tt) 0) 2 w (by decide) (by decide) (hw.sp (fun a => by simp -failIfUnchanged <;> omega))) (fun a => by simp -failIfUnchanged <;> omega) ?_
    rintro v11 H12 ⟨rfl, rfl⟩ -
    refine TE_q rfl rfl (RD.move rfl) rfl ?_
    refine TE_callG _ [] rfl rfl trivial Tryz.call135 rfl rfl rfl (fun w hw => c_rotl ((s8f tt) 0) 13 w (by decide) (by decide) (hw.sp (fun a => by simp -failIfUnchanged <;> omega))) (fun a => by simp -failIfUnchanged <;> omega) ?_
    rintro v13 H14 ⟨rfl, rfl⟩ -
    refine TE_q rfl rfl (RD.xorW (a := (rotr ((s8f tt) 0) 2)) (b := (rotr ((s8f tt) 0) 13)) rfl rfl) rfl ?_
    refine TE_q rfl rfl (RD.move rfl) rfl ?_
    refine TE_callG _ [] rfl rfl trivial Tryz.call135 rfl rfl rfl (fun w hw => c_rotl ((s8f tt) 0) 22 w (by decide) (by decide) (hw.sp (fun a => by simp -failIfUnchanged <;> omega))) (fun a => by simp -failIfUnchanged <;> omega) ?_
    rintro v15 H16 ⟨rfl, rfl⟩ -
    refine TE_q rfl rfl (RD.xorW (a := ((rotr ((s8f tt) 0) 2) ^^^ (rotr ((s8f tt) 0) 13))) (b := (rotr ((s8f tt) 0) 22)) rfl rfl) rfl ?_
    refine TE_q rfl rfl (RD.assign rfl) rfl ?_
    refine TE_nil0 ?_
    refine pn_seq ?_
    refine pn_plain [] rfl ?_
    refine TE_q rfl rfl (RD.move rfl) rfl ?_
    refine TE_q rfl rfl (RD.move rfl) rfl ?_
    refine TE_q rfl rfl (RD.as (v := .pointer (some ⟨b5, 1, none⟩)) (RD.indexAddrA Tryz.runUnderlying107 Tryz.sizeOf106 rfl rfl (by decide) (by decide)) rfl) rfl ?_
    refine TE_l rfl rfl trivial rfl (RD.load (i := 0) (v := .int .u32 (((s8f tt) 1).toNat : Int)) Tryz.isAgg106 rfl rfl (wf_cell 1 (by decide))) rfl ?_
    refine TE_q rfl rfl (RD.andW (a := ((s8f tt) 0)) (b := ((s8f tt) 1)) rfl rfl) rfl ?_
    refine TE_q rfl rfl (RD.move rfl) rfl ?_
    refine TE_q rfl rfl (RD.as (v := .pointer (some ⟨b5, 2, none⟩)) (RD.indexAddrA Tryz.runUnderlying107 Tryz.sizeOf106 rfl rfl (by decide) (by decide)) rfl) rfl ?_
    refine TE_l rfl rfl trivial rfl (RD.load (i := 0) (v := .int .u32 (((s8f tt) 2).toNat : Int)) Tryz.isAgg106 rfl rfl (wf_cell 2 (by decide))) rfl ?_
    refine TE_q rfl rfl (RD.andW (a := ((s8f tt) 0)) (b := ((s8f tt) 2)) rfl rfl) rfl ?_
    refine TE_q rfl rfl (RD.xorW (a := (((s8f tt) 0) &&& ((s8f tt) 1))) (b := (((s8f tt) 0) &&& ((s8f tt) 2))) rfl rfl) rfl ?_
    refine TE_q rfl rfl (RD.as (v := .pointer (some ⟨b5, 1, none⟩)) (RD.indexAddrA Tryz.runUnderlying107 Tryz.sizeOf106 rfl rfl (by decide) (by decide)) rfl) rfl ?_
    refine TE_l rfl rfl trivial rfl (RD.load (i := 0) (v := .int .u32 (((s8f tt) 1).toNat : Int)) Tryz.isAgg106 rfl rfl (wf_cell 1 (by decide))) rfl ?_
    refine TE_q rfl rfl (RD.as (v := .pointer (some ⟨b5, 2, none⟩)) (RD.indexAddrA Tryz.runUnderlying107 Tryz.sizeOf106 rfl rfl (by decide) (by decide)) rfl) rfl ?_
    refine TE_l rfl rfl trivial rfl (RD.load (i := 0) (v := .int .u32 (((s8f tt) 2).toNat : Int)) Tryz.isAgg106 rfl rfl (wf_cell 2 (by decide))) rfl ?_
    refine TE_q rfl rfl (RD.andW (a := ((s8f tt) 1)) (b := ((s8f tt) 2)) rfl rfl) rfl ?_
    refine TE_q rfl rfl (RD.xorW (a := ((((s8f tt) 0) &&& ((s8f tt) 1)) ^^^ (((s8f tt) 0) &&& ((s8f tt) 2)))) (b := (((s8f tt) 1) &&& ((s8f tt) 2))) rfl rfl) rfl ?_
    refine TE_q rfl rfl (RD.addW (a := (((rotr ((s8f tt) 0) 2) ^^^ (rotr ((s8f tt) 0) 13)) ^^^ (rotr ((s8f tt) 0) 22))) (b := (((((s8f tt) 0) &&& ((s8f tt) 1)) ^^^ (((s8f tt) 0) &&& ((s8f tt) 2))) ^^^ (((s8f tt) 1) &&& ((s8f tt) 2)))) rfl rfl) rfl ?_
    refine TE_q rfl rfl (RD.assign rfl) rfl ?_
    refine TE_nil0 ?_
    refine pn_plain [] rfl ?_
    refine TE_q rfl rfl (RD.move rfl) rfl ?_
    refine TE_q rfl rfl (RD.move rfl) rfl ?_
    refine TE_q rfl rfl (RD.addW (a := ((((((s8f tt) 7) + (((rotr ((s8f tt) 4) 6) ^^^ (rotr ((s8f tt) 4) 11)) ^^^ (rotr ((s8f tt) 4) 25))) + ((((s8f tt) 4) &&& ((s8f tt) 5)) ^^^ ((~~~((s8f tt) 4)) &&& ((s8f tt) 6)))) + ((gtf shaK) x.1)) + x.2)) (b := ((((rotr ((s8f tt) 0) 2) ^^^ (rotr ((s8f tt) 0) 13)) ^^^ (rotr ((s8f tt) 0) 22)) + (((((s8f tt) 0) &&& ((s8f tt) 1)) ^^^ (((s8f tt) 0) &&& ((s8f tt) 2))) ^^^ (((s8f tt) 1) &&& ((s8f tt) 2))))) rfl rfl) rfl ?_
    refine TE_q rfl rfl (RD.move rfl) rfl ?_
    refine TE_q rfl rfl (RD.as (v := .pointer (some ⟨b5, 1, none⟩)) (RD.indexAddrA Tryz.runUnderlying107 Tryz.sizeOf106 rfl rfl (by decide) (by decide)) rfl) rfl ?_
    refine TE_l rfl rfl trivial rfl (RD.load (i := 0) (v := .int .u32 (((s8f tt) 1).toNat : Int)) Tryz.isAgg106 rfl rfl (wf_cell 1 (by decide))) rfl ?_
    refine TE_q rfl rfl (RD.as (v := .pointer (some ⟨b5, 2, none⟩)) (RD.indexAddrA Tryz.runUnderlying107 Tryz.sizeOf106 rfl rfl (by decide) (by decide)) rfl) rfl ?_
    refine TE_l rfl rfl trivial rfl (RD.load (i := 0) (v := .int .u32 (((s8f tt) 2).toNat : Int)) Tryz.isAgg106 rfl rfl (wf_cell 2 (by decide))) rfl ?_
    refine TE_q rfl rfl (RD.as (v := .pointer (some ⟨b5, 3, none⟩)) (RD.indexAddrA Tryz.runUnderlying107 Tryz.sizeOf106 rfl rfl (by decide) (by decide)) rfl) rfl ?_
    refine TE_l rfl rfl trivial rfl (RD.load (i := 0) (v := .int .u32 (((s8f tt) 3).toNat : Int)) Tryz.isAgg106 rfl rfl (wf_cell 3 (by decide))) rfl ?_
    refine TE_q rfl rfl (RD.move rfl) rfl ?_
    refine TE_q rfl rfl (RD.addW (a := ((s8f tt) 3)) (b := ((((((s8f tt) 7) + (((rotr ((s8f tt) 4) 6) ^^^ (rotr ((s8f tt) 4) 11)) ^^^ (rotr ((s8f tt) 4) 25))) + ((((s8f tt) 4) &&& ((s8f tt) 5)) ^^^ ((~~~((s8f tt) 4)) &&& ((s8f tt) 6)))) + ((gtf shaK) x.1)) + x.2)) rfl rfl) rfl ?_
    refine TE_q rfl rfl (RD.move rfl) rfl ?_
    refine TE_q rfl rfl (RD.as (v := .pointer (some ⟨b5, 5, none⟩)) (RD.indexAddrA Tryz.runUnderlying107 Tryz.sizeOf106 rfl rfl (by decide) (by decide)) rfl) rfl ?_
    refine TE_l rfl rfl trivial rfl (RD.load (i := 0) (v := .int .u32 (((s8f tt) 5).toNat : Int)) Tryz.isAgg106 rfl rfl (wf_cell 5 (by decide))) rfl ?_
    refine TE_q rfl rfl (RD.as (v := .pointer (some ⟨b5, 6, none⟩)) (RD.indexAddrA Tryz.runUnderlying107 Tryz.sizeOf106 rfl rfl (by decide) (by decide)) rfl) rfl ?_
    refine TE_l rfl rfl trivial rfl (RD.load (i := 0) (v := .int .u32 (((s8f tt) 6).toNat : Int)) Tryz.isAgg106 rfl rfl (wf_cell 6 (by decide))) rfl ?_
    refine TE_q rfl rfl (RD.build (v := wfV 8 (w8 (((((((s8f tt) 7) + (((rotr ((s8f tt) 4) 6) ^^^ (rotr ((s8f tt) 4) 11)) ^^^ (rotr ((s8f tt) 4) 25))) + ((((s8f tt) 4) &&& ((s8f tt) 5)) ^^^ ((~~~((s8f tt) 4)) &&& ((s8f tt) 6)))) + ((gtf shaK) x.1)) + x.2) + ((((rotr ((s8f tt) 0) 2) ^^^ (rotr ((s8f tt) 0) 13)) ^^^ (rotr ((s8f tt) 0) 22)) + (((((s8f tt) 0) &&& ((s8f tt) 1)) ^^^ (((s8f tt) 0) &&& ((s8f tt) 2))) ^^^ (((s8f tt) 1) &&& ((s8f tt) 2))))) ((s8f tt) 0) ((s8f tt) 1) ((s8f tt) 2) (((s8f tt) 3) + ((((((s8f tt) 7) + (((rotr ((s8f tt) 4) 6) ^^^ (rotr ((s8f tt) 4) 11)) ^^^ (rotr ((s8f tt) 4) 25))) + ((((s8f tt) 4) &&& ((s8f tt) 5)) ^^^ ((~~~((s8f tt) 4)) &&& ((s8f tt) 6)))) + ((gtf shaK) x.1)) + x.2)) ((s8f tt) 4) ((s8f tt) 5) ((s8f tt) 6))) rfl (fun w => bd_w8 _ _ _ _ _ _ _ _ w)) rfl ?_
    refine TE_putCW 0 (wfV 8 (s8f tt)).cells (wfV 8 (w8 (((((((s8f tt) 7) + (((rotr ((s8f tt) 4) 6) ^^^ (rotr ((s8f tt) 4) 11)) ^^^ (rotr ((s8f tt) 4) 25))) + ((((s8f tt) 4) &&& ((s8f tt) 5)) ^^^ ((~~~((s8f tt) 4)) &&& ((s8f tt) 6)))) + ((gtf shaK) x.1)) + x.2) + ((((rotr ((s8f tt) 0) 2) ^^^ (rotr ((s8f tt) 0) 13)) ^^^ (rotr ((s8f tt) 0) 22)) + (((((s8f tt) 0) &&& ((s8f tt) 1)) ^^^ (((s8f tt) 0) &&& ((s8f tt) 2))) ^^^ (((s8f tt) 1) &&& ((s8f tt) 2))))) ((s8f tt) 0) ((s8f tt) 1) ((s8f tt) 2) (((s8f tt) 3) + ((((((s8f tt) 7) + (((rotr ((s8f tt) 4) 6) ^^^ (rotr ((s8f tt) 4) 11)) ^^^ (rotr ((s8f tt) 4) 25))) + ((((s8f tt) 4) &&& ((s8f tt) 5)) ^^^ ((~~~((s8f tt) 4)) &&& ((s8f tt) 6)))) + ((gtf shaK) x.1)) + x.2)) ((s8f tt) 4) ((s8f tt) 5) ((s8f tt) 6))).cells ((b5, .cells (wfV 8 (w8 (((((((s8f tt) 7) + (((rotr ((s8f tt) 4) 6) ^^^ (rotr ((s8f tt) 4) 11)) ^^^ (rotr ((s8f tt) 4) 25))) + ((((s8f tt) 4) &&& ((s8f tt) 5)) ^^^ ((~~~((s8f tt) 4)) &&& ((s8f tt) 6)))) + ((gtf shaK) x.1)) + x.2) + ((((rotr ((s8f tt) 0) 2) ^^^ (rotr ((s8f tt) 0) 13)) ^^^ (rotr ((s8f tt) 0) 22)) + (((((s8f tt) 0) &&& ((s8f tt) 1)) ^^^ (((s8f tt) 0) &&& ((s8f tt) 2))) ^^^ (((s8f tt) 1) &&& ((s8f tt) 2))))) ((s8f tt) 0) ((s8f tt) 1) ((s8f tt) 2) (((s8f tt) 3) + ((((((s8f tt) 7) + (((rotr ((s8f tt) 4) 6) ^^^ (rotr ((s8f tt) 4) 11)) ^^^ (rotr ((s8f tt) 4) 25))) + ((((s8f tt) 4) &&& ((s8f tt) 5)) ^^^ ((~~~((s8f tt) 4)) &&& ((s8f tt) 6)))) + ((gtf shaK) x.1)) + x.2)) ((s8f tt) 4) ((s8f tt) 5) ((s8f tt) 6))).cells 107 (0, 0)) :: (b4, .cells (wfV 8 (fun _ => 0)).cells 107 (0, 0)) :: (b2, .cells (wfV 8 (s8f s)).cells 107 (0, 0)) :: (1, .cells (wfV 64 (gtf shaK)).cells 217 (0, 0)) :: R) rfl Tryz.sizeOf107 trivial rfl rfl rfl (wf_one 8 _) rfl rfl rfl rfl (.inr (by simp [keys])) ?_
    have he17 : (wfV 8 (w8 (((((((s8f tt) 7) + (((rotr ((s8f tt) 4) 6) ^^^ (rotr ((s8f tt) 4) 11)) ^^^ (rotr ((s8f tt) 4) 25))) + ((((s8f tt) 4) &&& ((s8f tt) 5)) ^^^ ((~~~((s8f tt) 4)) &&& ((s8f tt) 6)))) + ((gtf shaK) x.1)) + x.2) + ((((rotr ((s8f tt) 0) 2) ^^^ (rotr ((s8f tt) 0) 13)) ^^^ (rotr ((s8f tt) 0) 22)) + (((((s8f tt) 0) &&& ((s8f tt) 1)) ^^^ (((s8f tt) 0) &&& ((s8f tt) 2))) ^^^ (((s8f tt) 1) &&& ((s8f tt) 2))))) ((s8f tt) 0) ((s8f tt) 1) ((s8f tt) 2) (((s8f tt) 3) + ((((((s8f tt) 7) + (((rotr ((s8f tt) 4) 6) ^^^ (rotr ((s8f tt) 4) 11)) ^^^ (rotr ((s8f tt) 4) 25))) + ((((s8f tt) 4) &&& ((s8f tt) 5)) ^^^ ((~~~((s8f tt) 4)) &&& ((s8f tt) 6)))) + ((gtf shaK) x.1)) + x.2)) ((s8f tt) 4) ((s8f tt) 5) ((s8f tt) 6))).cells = (wfV 8 (s8f (shaStep tt (gtf shaK x.1) x.2))).cells := rfl
    refine TE_sp ((b5, .cells (wfV 8 (s8f (shaStep tt (gtf shaK x.1) x.2))).cells 107 (0, 0)) :: (b4, .cells (wfV 8 (fun _ => 0)).cells 107 (0, 0)) :: (b2, .cells (wfV 8 (s8f s)).cells 107 (0, 0)) :: (1, .cells (wfV 64 (gtf shaK)).cells 217 (0, 0)) :: R) (fun a => by rw [he17]; exact Nat.le_refl _) ?_
    refine TE_nil0 ?_
    exact pn_endR (σ := S8) (HJ := (fun (q : S8) => [(b5, .cells (wfV 8 (s8f q)).cells 107 (0, 0))])) (s := tt) (l := l1) (R := R) (shaStep tt (gtf shaK x.1) x.2) rfl (show (shaStep tt (gtf shaK x.1) x.2) = shaRun s l (pre ++ [x]).length from (sha_end hx ht)) (fun w h => h.sp (fun a => by simp -failIfUnchanged <;> omega)) (by intro e he; refine Or.inl (?_ : e.1 ∈ keys [(b5, .cells (wfV 8 (s8f tt)).cells 107 (0, 0))]); simp only [keys, List.map_cons, List.map_nil, List.mem_cons, List.not_mem_nil, or_false] at he ⊢; rcases he with rfl <;> simp)
  · rintro D HI' tt hD ht rfl
    refine pn_seq ?_
    refine pn_seq ?_
    refine pn_plainG [] [(b5, .cells (wfV 8 (s8f tt)).cells 107 (0, 0)), (D, .deferred (some [])), (b4, .cells (wfV 8 (fun _ => 0)).cells 107 (0, 0)), (b2, .cells (wfV 8 (s8f s)).cells 107 (0, 0)), (1, .cells (wfV 64 (gtf shaK)).cells 217 (0, 0))] rfl (fun a => by simp -failIfUnchanged <;> omega) ?_
    refine TE_q rfl rfl (RD.move rfl) rfl ?_
    refine TE_nil0 ?_
    refine pn_block ?_
    refine pn_sp [(b5, .cells (wfV 8 (addTo 0 (s8f tt) (s8f s))).cells 107 (0, 0)), (D, .deferred (some [])), (b4, .cells (wfV 8 (fun _ => 0)).cells 107 (0, 0)), (b2, .cells (wfV 8 (s8f s)).cells 107 (0, 0)), (1, .cells (wfV 64 (gtf shaK)).cells 217 (0, 0))] (fun a => by rw [addTo_0]; exact Nat.le_refl _) ?_
    refine pn_loopS (σ := Nat) (fun q => [(2, .pointer (some ⟨b2, 0, none⟩)), (4, .pointer (some ⟨b4, 0, none⟩)), (5, .pointer (some ⟨b5, 0, none⟩)), (96, .int .i64 (q : Int))]) (fun q => [(b5, .cells (wfV 8 (addTo q (s8f tt) (s8f s))).cells 107 (0, 0)), (D, .deferred (some [])), (b4, .cells (wfV 8 (fun _ => 0)).cells 107 (0, 0)), (b2, .cells (wfV 8 (s8f s)).cells 107 (0, 0)), (1, .cells (wfV 64 (gtf shaK)).cells 217 (0, 0))]) (fun q => (q ≤ 8)) (fun q => 8 - q) 0 (by omega) ⟨rfl, rfl, rfl, rfl, trivial⟩ (fun a => by simp -failIfUnchanged <;> omega) ?_
    rintro i hi
    refine pn_seq ?_
    refine pn_plain [] rfl ?_
    refine TE_q rfl rfl (RD.lss rfl rfl) rfl ?_
    refine TE_nil0 ?_
    refine pn_seq ?_
    refine pn_condD rfl (fun hc18 => ?_) (fun hc18 => ?_)
    · refine pn_skip ?_
      refine pn_seq ?_
      refine pn_block ?_
      refine pn_seq ?_
      refine pn_plain [] rfl ?_
      refine TE_q rfl rfl (RD.move rfl) rfl ?_
      refine TE_q rfl rfl (RD.assign rfl) rfl ?_
      refine TE_nil0 ?_
      refine pn_drawG [5] [(b5, .cells (wfV 8 (addTo i (s8f tt) (s8f s))).cells 107 (0, 0))] [(D, .deferred (some [])), (b4, .cells (wfV 8 (fun _ => 0)).cells 107 (0, 0)), (b2, .cells (wfV 8 (s8f s)).cells 107 (0, 0)), (1, .cells (wfV 64 (gtf shaK)).cells 217 (0, 0))] rfl rfl (by kernel_rfl) (fun a => by simp -failIfUnchanged <;> omega) ?_
      refine TE_q rfl rfl (RD.move rfl) rfl ?_
      refine TE_q rfl rfl (RD.indexAddrA Tryz.runUnderlying107 Tryz.sizeOf106 rfl rfl (by omega) (by omega)) rfl ?_
      refine TE_l rfl rfl trivial rfl (RD.load (i := 0) (v := .int .u32 (((addTo i (s8f tt) (s8f s)) i).toNat : Int)) Tryz.isAgg106 rfl rfl (wf_get i (by omega) (by omega))) rfl ?_
      refine TE_q rfl rfl (RD.move rfl) rfl ?_
      refine TE_q rfl rfl (RD.indexAddrA Tryz.runUnderlying107 Tryz.sizeOf106 rfl rfl (by omega) (by omega)) rfl ?_
      refine TE_q rfl rfl (RD.load (i := 2) (v := .int .u32 (((s8f s) i).toNat : Int)) Tryz.isAgg106 rfl rfl (wf_get i (by omega) (by omega))) rfl ?_
      refine TE_q rfl rfl (RD.addW (a := ((addTo i (s8f tt) (s8f s)) i)) (b := ((s8f s) i)) rfl rfl) rfl ?_
      refine TE_q rfl rfl (RD.indexAddrA Tryz.runUnderlying107 Tryz.sizeOf106 rfl rfl (by omega) (by omega)) rfl ?_
      refine TE_storeC 0 (wfV 8 (addTo i (s8f tt) (s8f s))).cells (wfV 8 (upd (addTo i (s8f tt) (s8f s)) i (((addTo i (s8f tt) (s8f s)) i) + ((s8f s) i)))).cells [(b5, .cells (wfV 8 (upd (addTo i (s8f tt) (s8f s)) i (((addTo i (s8f tt) (s8f s)) i) + ((s8f s) i)))).cells 107 (0, 0))] rfl Tryz.sizeOf106 trivial rfl rfl rfl rfl rfl (wf_lt i (by omega) (by omega)) (wf_put i (by omega) (((addTo i (s8f tt) (s8f s)) i) + ((s8f s) i))) rfl (.inl hb5) ?_
      have he19 : (wfV 8 (upd (addTo i (s8f tt) (s8f s)) i (((addTo i (s8f tt) (s8f s)) i) + ((s8f s) i)))).cells = (wfV 8 (addTo (i + 1) (s8f tt) (s8f s))).cells := addTo_next
      refine TE_sp [(b5, .cells (wfV 8 (addTo (i + 1) (s8f tt) (s8f s))).cells 107 (0, 0))] (fun a => by rw [he19]; exact Nat.le_refl _) ?_
      refine TE_nil ?_
      refine pn_plainG [] [(b5, .cells (wfV 8 (addTo (i + 1) (s8f tt) (s8f s))).cells 107 (0, 0)), (D, .deferred (some [])), (b4, .cells (wfV 8 (fun _ => 0)).cells 107 (0, 0)), (b2, .cells (wfV 8 (s8f s)).cells 107 (0, 0)), (1, .cells (wfV 64 (gtf shaK)).cells 217 (0, 0))] rfl (fun a => by simp -failIfUnchanged <;> omega) ?_
      refine TE_q rfl rfl (RD.addI rfl rfl (by omega) (by omega)) rfl ?_
      refine TE_q rfl rfl (RD.move rfl) rfl ?_
      refine TE_nil0 ?_
      exact pn_againS (i + 1) (by omega) (by omega) ⟨rfl, rfl, rfl, rfl, trivial⟩ (fun a => by simp -failIfUnchanged <;> omega)
    · refine pn_exit ?_
      refine pn_seq ?_
      refine pn_plain [] rfl ?_
      refine TE_l rfl rfl trivial rfl (RD.loadA (i := 0) Tryz.isAgg107 Tryz.sizeOf107 rfl rfl (Nat.le_of_ble_eq_true rfl) (wf_all 8 _)) rfl ?_
      refine TE_putCW 2 (wfV 8 (fun _ => 0)).cells (wfV 8 (addTo i (s8f tt) (s8f s))).cells [(b5, .cells (wfV 8 (addTo i (s8f tt) (s8f s))).cells 107 (0, 0)), (D, .deferred (some [])), (b4, .cells (wfV 8 (addTo i (s8f tt) (s8f s))).cells 107 (0, 0)), (b2, .cells (wfV 8 (s8f s)).cells 107 (0, 0)), (1, .cells (wfV 64 (gtf shaK)).cells 217 (0, 0))] rfl Tryz.sizeOf107 trivial rfl rfl rfl (wf_one 8 _) rfl rfl rfl rfl (.inl hb4) ?_
      refine TE_nil0 ?_
      refine pn_ret ?_
      exact pn_doneFC D [(b5, .cells (wfV 8 (addTo i (s8f tt) (s8f s))).cells 107 (0, 0)), (b4, .cells (wfV 8 (addTo i (s8f tt) (s8f s))).cells 107 (0, 0)), (b2, .cells (wfV 8 (s8f s)).cells 107 (0, 0)), (1, .cells (wfV 64 (gtf shaK)).cells 217 (0, 0))] (fun a => by simp -failIfUnchanged <;> omega) rfl ⟨wfV 8 (addTo i (s8f tt) (s8f s)), _, b4, 0, rfl, rfl, load_agg (i := 1) Tryz.isAgg107 Tryz.sizeOf107 rfl (Nat.le_of_ble_eq_true rfl) (wf_all 8 _), rfl⟩ ⟨(by obtain rfl : i = 8 := (by omega); rw [addTo_8, ht, shaPairs_len]; rfl), rfl⟩ (fun _ h => h.sp (fun _ => Nat.zero_le _)) (fun _ he => nomatch he) hD
  · rintro D HI' c pre q hD hpre hS; exact hS.elim

end Go.Proofs.YtloljpefdecmhaaGreatDoor
