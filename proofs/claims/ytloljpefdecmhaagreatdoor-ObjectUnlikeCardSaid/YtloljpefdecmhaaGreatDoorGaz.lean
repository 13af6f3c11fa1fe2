import Derived.Test.YtloljpefdecmhaaGreatDoorGay
namespace Go.Proofs.YtloljpefdecmhaaGreatDoor
open Go Go.Mv
set_option maxRecDepth 8000
theorem c_cloneBX (HX : Mem) (xv : Value) (ys : List UInt8) (w : World) (hH : Hp HX w) (hb : BytesIn HX xv ys) (hlen : ys.length ≤ 2199023255552) : Calls Tryz.prog 107 #[xv] w (Ret w [] fun v H1 => ∃ st, BldOk 1 (byteC) ys st ∧ v = bldVx ys st ∧ H1 = bldMx 5 (byteC) ys st) := by
  refine (c_clone HX xv ys w hH hb hlen).mono ?_
  rintro e w' ⟨v, H1, rfl, hret, h3⟩
  obtain ⟨st, h1, rfl, rfl⟩ := hret.bld
  rw [← bldMx_b] at h3
  exact ⟨_, _, rfl, ⟨st, BldOk.of_snk h1, (bldVx_b).symm, rfl⟩, h3⟩
theorem shaAll_go {s : S8} {l : List UInt8} (h : 64 ≤ l.length) : shaAll s l = shaAll (shaMix s (l.take 64)) (l.drop 64) := by rw [shaAll, dif_pos h]
theorem shaAll_end {s : S8} {l : List UInt8} (h : ¬ 64 ≤ l.length) : shaAll s l = s := by rw [shaAll, dif_neg h]
theorem shaLeft_go {l : List UInt8} (h : 64 ≤ l.length) : shaLeft (l.drop 64) = shaLeft l := by
  unfold shaLeft
  rw [List.drop_drop, List.length_drop]
  congr 1
  omega
theorem shaLeft_end {l : List UInt8} (h : ¬ 64 ≤ l.length) : shaLeft l = l := by
  unfold shaLeft
  rw [show l.length / 64 * 64 = 0 by omega]; rfl
theorem shaLeft_lt (l : List UInt8) : (shaLeft l).length < 64 := by
  unfold shaLeft; rw [List.length_drop]; omega
theorem put_b64 (l : List UInt8) (h : 64 ≤ l.length) : putL (bfV 64 (fun _ => 0)).cells 0 (cat byteC (l.take 64)) = (bfV 64 (gtf (l.take 64))).cells := by
  have hl : (l.take 64).length = 64 := by rw [List.length_take]; omega
  have hc : (cat byteC (l.take 64)).length = 64 := by rw [cat_len byteC_len, hl]
  rw [putL_all (by rw [hc]; rfl)]
  show (cat byteC (l.take 64)).toArray = (bfL 64 (gtf (l.take 64))).toArray
  congr 1
  apply List.ext_getElem?
  intro i
  rcases Nat.lt_or_ge i 64 with h1 | h1
  · rw [bfL_get _ h1, show i = i * 1 + 0 by omega, cat_get byteC_len (l.take 64) i 0 (gt (l.take 64) i) (gt_some (by omega)) (by omega)]
    simp [byteC, gtf]
  · rw [List.getElem?_eq_none (by omega), List.getElem?_eq_none (by rw [bfL_len]; omega)]

theorem c_clip (lv : Value) (l : List UInt8) (HX : Mem) (w : World) (hbl : Rdb HX lv l) (hH : Hp HX w) : Calls Tryz.prog 105 #[lv] w (Ret w [] fun v H1 => v = clipV lv ∧ H1 = []) := by
  refine fn_enter (args := [_]) Tryz.func105 rfl Tryz.ntmps105 rfl hH ?_
  refine pn_seq ?_
  refine pn_plain [] rfl ?_
  refine TE_q rfl rfl (RD.assign rfl) rfl ?_
  refine TE_nil0 ?_
  refine pn_seq ?_
  refine pn_plain [2, 4] rfl ?_
  refine TE_q rfl rfl (RD.move rfl) rfl ?_
  refine TE_q rfl rfl (RD.move rfl) rfl ?_
  refine TE_q rfl rfl (RD.lenR Tryz.runUnderlying32 rfl hbl) rfl ?_
  refine TE_q rfl rfl (RD.move rfl) rfl ?_
  refine TE_q rfl rfl (RD.lenR Tryz.runUnderlying32 rfl hbl) rfl ?_
  refine TE_q rfl rfl (RD.clipX Tryz.runUnderlying32 Tryz.sizeOf5 rfl (Rdx.of_b hbl) rfl rfl) rfl ?_
  refine TE_q rfl rfl (RD.assign rfl) rfl ?_
  refine TE_nil0 ?_
  refine pn_ret ?_
  exact pn_doneS [] rfl rfl ⟨rfl, rfl⟩ (fun _ => Nat.zero_le _) (fun _ he => nomatch he)

set_option maxHeartbeats 4000000 in
theorem c_add (s00 : S8) (r : Nat) (bg : Bool) (s : S8) (lv : Value) (ll : List UInt8) (many : Nat) (HL : Mem) (bbv : Value) (bb : List UInt8) (HX : Mem) (w : World) (hbll : Rdb HL lv ll) (hll : ll.length ≤ 100) (hmany : many ≤ 1000000) (hbbb : Rdb ((0, .cells (wfV 8 (s8f s00)).cells 107 (0, 0)) :: (1, .cells (wfV 64 (gtf shaK)).cells 217 (0, 0)) :: HX) bbv bb) (hlbb : bb.length ≤ 1000000) (hH : Hp ((r, .cells #[.bool bg, .int .u32 (((s8f s) 0).toNat : Int), .int .u32 (((s8f s) 1).toNat : Int), .int .u32 (((s8f s) 2).toNat : Int), .int .u32 (((s8f s) 3).toNat : Int), .int .u32 (((s8f s) 4).toNat : Int), .int .u32 (((s8f s) 5).toNat : Int), .int .u32 (((s8f s) 6).toNat : Int), .int .u32 (((s8f s) 7).toNat : Int), lv, .int .i64 (many : Int)] 109 (0, 0)) :: (0, .cells (wfV 8 (s8f s00)).cells 107 (0, 0)) :: (1, .cells (wfV 64 (gtf shaK)).cells 217 (0, 0)) :: (HL ++ HX)) w) : Calls Tryz.prog 57 #[.pointer (some ⟨r, 0, none⟩), bbv] w (Ret w (keys ((r, .cells #[.bool bg, .int .u32 (((s8f s) 0).toNat : Int), .int .u32 (((s8f s) 1).toNat : Int), .int .u32 (((s8f s) 2).toNat : Int), .int .u32 (((s8f s) 3).toNat : Int), .int .u32 (((s8f s) 4).toNat : Int), .int .u32 (((s8f s) 5).toNat : Int), .int .u32 (((s8f s) 6).toNat : Int), .int .u32 (((s8f s) 7).toNat : Int), lv, .int .i64 (many : Int)] 109 (0, 0)) :: HL)) fun v H1 => ∃ lv' Hn, Rdb (Hn ++ HL) lv' (shaLeft (ll ++ bb)) ∧ v = .pointer (some ⟨r, 0, none⟩) ∧ H1 = ((r, .cells #[.bool true, .int .u32 (((s8f (shaAll (bif bg then s else s00) (ll ++ bb))) 0).toNat : Int), .int .u32 (((s8f (shaAll (bif bg then s else s00) (ll ++ bb))) 1).toNat : Int), .int .u32 (((s8f (shaAll (bif bg then s else s00) (ll ++ bb))) 2).toNat : Int), .int .u32 (((s8f (shaAll (bif bg then s else s00) (ll ++ bb))) 3).toNat : Int), .int .u32 (((s8f (shaAll (bif bg then s else s00) (ll ++ bb))) 4).toNat : Int), .int .u32 (((s8f (shaAll (bif bg then s else s00) (ll ++ bb))) 5).toNat : Int), .int .u32 (((s8f (shaAll (bif bg then s else s00) (ll ++ bb))) 6).toNat : Int), .int .u32 (((s8f (shaAll (bif bg then s else s00) (ll ++ bb))) 7).toNat : Int), lv', .int .i64 ((many : Int) + (bb.length : Int))] 109 (0, 0)) :: (Hn ++ HL))) := by
  refine fn_enter (args := [_, _]) Tryz.func57 rfl Tryz.ntmps57 rfl hH ?_
  refine pn_seq ?_
  refine pn_plain [] rfl ?_
  refine TE_q rfl rfl (RD.assign rfl) rfl ?_
  refine TE_nil0 ?_
  refine pn_seq ?_
  refine pn_seq ?_
  refine pn_plain [] rfl ?_
  refine TE_q rfl rfl (RD.move rfl) rfl ?_
  refine TE_q rfl rfl (RD.as (v := .bool false) (RD.ptr_eql_nil Tryz.runUnderlying110 rfl rfl) rfl) rfl ?_
  refine TE_nil0 ?_
  refine pn_condF rfl ?_
  refine pn_skip ?_
  refine pn_seq ?_
  refine pn_seq ?_
  refine pn_plain [] rfl ?_
  refine TE_q rfl rfl (RD.move rfl) rfl ?_
  refine TE_q rfl rfl (RD.nilCheckP rfl) rfl ?_
  refine TE_q rfl rfl (RD.fieldAddr (o := 0) Tryz.runUnderlying109 rfl rfl Tryz.sizeOf4 rfl) rfl ?_
  refine TE_l rfl rfl trivial rfl (RD.load (i := 0) Tryz.isAgg4 rfl rfl rfl) rfl ?_
  refine TE_q rfl rfl (RD.not rfl) rfl ?_
  refine TE_nil0 ?_
  refine pn_cond rfl (fun hc1 => ?_) (fun hc1 => ?_)
  · simp only [Bool.not_eq_true'] at hc1
    refine pn_plain [] rfl ?_
    refine TE_q rfl rfl (RD.move rfl) rfl ?_
    refine TE_q rfl rfl (RD.move rfl) rfl ?_
    refine TE_l rfl rfl trivial rfl (RD.loadA (i := 1) Tryz.isAgg107 Tryz.sizeOf107 rfl rfl (Nat.le_of_ble_eq_true rfl) (wf_all 8 _)) rfl ?_
    refine TE_q rfl rfl (RD.nilCheckP rfl) rfl ?_
    refine TE_q rfl rfl (RD.fieldAddr (o := 0) Tryz.runUnderlying109 rfl rfl Tryz.sizeOf4 rfl) rfl ?_
    refine TE_storeC 0 #[.bool bg, .int .u32 (((s8f s) 0).toNat : Int), .int .u32 (((s8f s) 1).toNat : Int), .int .u32 (((s8f s) 2).toNat : Int), .int .u32 (((s8f s) 3).toNat : Int), .int .u32 (((s8f s) 4).toNat : Int), .int .u32 (((s8f s) 5).toNat : Int), .int .u32 (((s8f s) 6).toNat : Int), .int .u32 (((s8f s) 7).toNat : Int), lv, .int .i64 (many : Int)] #[.bool true, .int .u32 (((s8f s) 0).toNat : Int), .int .u32 (((s8f s) 1).toNat : Int), .int .u32 (((s8f s) 2).toNat : Int), .int .u32 (((s8f s) 3).toNat : Int), .int .u32 (((s8f s) 4).toNat : Int), .int .u32 (((s8f s) 5).toNat : Int), .int .u32 (((s8f s) 6).toNat : Int), .int .u32 (((s8f s) 7).toNat : Int), lv, .int .i64 (many : Int)] ((r, .cells #[.bool true, .int .u32 (((s8f s) 0).toNat : Int), .int .u32 (((s8f s) 1).toNat : Int), .int .u32 (((s8f s) 2).toNat : Int), .int .u32 (((s8f s) 3).toNat : Int), .int .u32 (((s8f s) 4).toNat : Int), .int .u32 (((s8f s) 5).toNat : Int), .int .u32 (((s8f s) 6).toNat : Int), .int .u32 (((s8f s) 7).toNat : Int), lv, .int .i64 (many : Int)] 109 (0, 0)) :: (0, .cells (wfV 8 (s8f s00)).cells 107 (0, 0)) :: (1, .cells (wfV 64 (gtf shaK)).cells 217 (0, 0)) :: (HL ++ HX)) rfl Tryz.sizeOf4 trivial rfl rfl rfl rfl rfl rfl rfl rfl (.inr (by simp [keys])) ?_
    refine TE_q rfl rfl (RD.nilCheckP rfl) rfl ?_
    refine TE_q rfl rfl (RD.fieldAddr (o := 1) Tryz.runUnderlying109 rfl rfl Tryz.sizeOf107 rfl) rfl ?_
    refine TE_putC 0 #[.bool true, .int .u32 (((s8f s) 0).toNat : Int), .int .u32 (((s8f s) 1).toNat : Int), .int .u32 (((s8f s) 2).toNat : Int), .int .u32 (((s8f s) 3).toNat : Int), .int .u32 (((s8f s) 4).toNat : Int), .int .u32 (((s8f s) 5).toNat : Int), .int .u32 (((s8f s) 6).toNat : Int), .int .u32 (((s8f s) 7).toNat : Int), lv, .int .i64 (many : Int)] #[.bool true, .int .u32 (((s8f s00) 0).toNat : Int), .int .u32 (((s8f s00) 1).toNat : Int), .int .u32 (((s8f s00) 2).toNat : Int), .int .u32 (((s8f s00) 3).toNat : Int), .int .u32 (((s8f s00) 4).toNat : Int), .int .u32 (((s8f s00) 5).toNat : Int), .int .u32 (((s8f s00) 6).toNat : Int), .int .u32 (((s8f s00) 7).toNat : Int), lv, .int .i64 (many : Int)] ((r, .cells #[.bool true, .int .u32 (((s8f s00) 0).toNat : Int), .int .u32 (((s8f s00) 1).toNat : Int), .int .u32 (((s8f s00) 2).toNat : Int), .int .u32 (((s8f s00) 3).toNat : Int), .int .u32 (((s8f s00) 4).toNat : Int), .int .u32 (((s8f s00) 5).toNat : Int), .int .u32 (((s8f s00) 6).toNat : Int), .int .u32 (((s8f s00) 7).toNat : Int), lv, .int .i64 (many : Int)] 109 (0, 0)) :: (0, .cells (wfV 8 (s8f s00)).cells 107 (0, 0)) :: (1, .cells (wfV 64 (gtf shaK)).cells 217 (0, 0)) :: (HL ++ HX)) rfl Tryz.sizeOf107 trivial rfl rfl (by kernel_rfl) (wf_one 8 _) rfl rfl (by kernel_rfl) rfl (.inr (by simp [keys])) ?_
    refine TE_nil0 ?_
    refine pn_seq ?_
    refine pn_plain [5] rfl ?_
    refine TE_q rfl rfl (RD.move rfl) rfl ?_
    refine TE_q rfl rfl (RD.nilCheckP rfl) rfl ?_
    refine TE_q rfl rfl (RD.fieldAddr (o := 10) Tryz.runUnderlying109 rfl rfl Tryz.sizeOf3 rfl) rfl ?_
    refine TE_l rfl rfl trivial rfl (RD.load (i := 0) Tryz.isAgg3 rfl rfl rfl) rfl ?_
    refine TE_q rfl rfl (RD.move rfl) rfl ?_
    refine TE_q rfl rfl (RD.lenR Tryz.runUnderlying32 rfl hbbb) rfl ?_
    refine TE_q rfl rfl (RD.addI rfl rfl (by omega) (by omega)) rfl ?_
    refine TE_q rfl rfl (RD.nilCheckP rfl) rfl ?_
    refine TE_q rfl rfl (RD.fieldAddr (o := 10) Tryz.runUnderlying109 rfl rfl Tryz.sizeOf3 rfl) rfl ?_
    refine TE_storeC 0 #[.bool true, .int .u32 (((s8f s00) 0).toNat : Int), .int .u32 (((s8f s00) 1).toNat : Int), .int .u32 (((s8f s00) 2).toNat : Int), .int .u32 (((s8f s00) 3).toNat : Int), .int .u32 (((s8f s00) 4).toNat : Int), .int .u32 (((s8f s00) 5).toNat : Int), .int .u32 (((s8f s00) 6).toNat : Int), .int .u32 (((s8f s00) 7).toNat : Int), lv, .int .i64 (many : Int)] #[.bool true, .int .u32 (((s8f s00) 0).toNat : Int), .int .u32 (((s8f s00) 1).toNat : Int), .int .u32 (((s8f s00) 2).toNat : Int), .int .u32 (((s8f s00) 3).toNat : Int), .int .u32 (((s8f s00) 4).toNat : Int), .int .u32 (((s8f s00) 5).toNat : Int), .int .u32 (((s8f s00) 6).toNat : Int), .int .u32 (((s8f s00) 7).toNat : Int), lv, .int .i64 ((many : Int) + (bb.length : Int))] ((r, .cells #[.bool true, .int .u32 (((s8f s00) 0).toNat : Int), .int .u32 (((s8f s00) 1).toNat : Int), .int .u32 (((s8f s00) 2).toNat : Int), .int .u32 (((s8f s00) 3).toNat : Int), .int .u32 (((s8f s00) 4).toNat : Int), .int .u32 (((s8f s00) 5).toNat : Int), .int .u32 (((s8f s00) 6).toNat : Int), .int .u32 (((s8f s00) 7).toNat : Int), lv, .int .i64 ((many : Int) + (bb.length : Int))] 109 (0, 0)) :: (0, .cells (wfV 8 (s8f s00)).cells 107 (0, 0)) :: (1, .cells (wfV 64 (gtf shaK)).cells 217 (0, 0)) :: (HL ++ HX)) rfl Tryz.sizeOf3 trivial rfl rfl rfl rfl rfl rfl rfl rfl (.inr (by simp [keys])) ?_
    refine TE_nil0 ?_
    refine pn_seq ?_
    refine pn_plain [] rfl ?_
    refine TE_q rfl rfl (RD.move rfl) rfl ?_
    refine TE_q rfl rfl (RD.move rfl) rfl ?_
    refine TE_q rfl rfl (RD.nilCheckP rfl) rfl ?_
    refine TE_q rfl rfl (RD.fieldAddr (o := 9) Tryz.runUnderlying109 rfl rfl Tryz.sizeOf32 rfl) rfl ?_
    refine TE_l rfl rfl trivial rfl (RD.load (i := 0) Tryz.isAgg32 rfl rfl rfl) rfl ?_
    refine TE_callG _ HL rfl rfl trivial Tryz.call105 rfl rfl rfl (fun w hw => c_clip lv ll HL w (hbll.mono (fun _ hw => hw.sp (fun a => by simp -failIfUnchanged <;> omega))) (hw.sp (fun a => by simp -failIfUnchanged <;> omega))) (fun a => by simp -failIfUnchanged <;> omega) ?_
    rintro v2 H3 ⟨rfl, rfl⟩ -
    refine TE_q rfl rfl (RD.move rfl) rfl ?_
    refine TE_appendC (v := lv) (xs := ll) (ys := bb) byteC_len byteC_one rfl rfl trivial rfl Tryz.underlying32 elByteR rfl rfl rfl rfl (Rdx.of_b hbll) (fun _ hw => hw.sp (fun a => by simp -failIfUnchanged <;> omega)) (Rdx.of_b hbbb) (fun _ hw => hw.sp (fun a => by simp -failIfUnchanged <;> omega)) (by omega) rfl ?_
    intro lv4 HN5 hR6 hX7
    refine TE_sp ((r, .cells #[.bool true, .int .u32 (((s8f s00) 0).toNat : Int), .int .u32 (((s8f s00) 1).toNat : Int), .int .u32 (((s8f s00) 2).toNat : Int), .int .u32 (((s8f s00) 3).toNat : Int), .int .u32 (((s8f s00) 4).toNat : Int), .int .u32 (((s8f s00) 5).toNat : Int), .int .u32 (((s8f s00) 6).toNat : Int), .int .u32 (((s8f s00) 7).toNat : Int), lv, .int .i64 ((many : Int) + (bb.length : Int))] 109 (0, 0)) :: (0, .cells (wfV 8 (s8f s00)).cells 107 (0, 0)) :: (1, .cells (wfV 64 (gtf shaK)).cells 217 (0, 0)) :: (HN5 ++ (HL ++ HX))) (fun a => by simp -failIfUnchanged <;> omega) ?_
    refine TE_q rfl rfl (RD.nilCheckP rfl) rfl ?_
    refine TE_q rfl rfl (RD.fieldAddr (o := 9) Tryz.runUnderlying109 rfl rfl Tryz.sizeOf32 rfl) rfl ?_
    refine TE_storeC 0 #[.bool true, .int .u32 (((s8f s00) 0).toNat : Int), .int .u32 (((s8f s00) 1).toNat : Int), .int .u32 (((s8f s00) 2).toNat : Int), .int .u32 (((s8f s00) 3).toNat : Int), .int .u32 (((s8f s00) 4).toNat : Int), .int .u32 (((s8f s00) 5).toNat : Int), .int .u32 (((s8f s00) 6).toNat : Int), .int .u32 (((s8f s00) 7).toNat : Int), lv, .int .i64 ((many : Int) + (bb.length : Int))] #[.bool true, .int .u32 (((s8f s00) 0).toNat : Int), .int .u32 (((s8f s00) 1).toNat : Int), .int .u32 (((s8f s00) 2).toNat : Int), .int .u32 (((s8f s00) 3).toNat : Int), .int .u32 (((s8f s00) 4).toNat : Int), .int .u32 (((s8f s00) 5).toNat : Int), .int .u32 (((s8f s00) 6).toNat : Int), .int .u32 (((s8f s00) 7).toNat : Int), lv4, .int .i64 ((many : Int) + (bb.length : Int))] ((r, .cells #[.bool true, .int .u32 (((s8f s00) 0).toNat : Int), .int .u32 (((s8f s00) 1).toNat : Int), .int .u32 (((s8f s00) 2).toNat : Int), .int .u32 (((s8f s00) 3).toNat : Int), .int .u32 (((s8f s00) 4).toNat : Int), .int .u32 (((s8f s00) 5).toNat : Int), .int .u32 (((s8f s00) 6).toNat : Int), .int .u32 (((s8f s00) 7).toNat : Int), lv4, .int .i64 ((many : Int) + (bb.length : Int))] 109 (0, 0)) :: (0, .cells (wfV 8 (s8f s00)).cells 107 (0, 0)) :: (1, .cells (wfV 64 (gtf shaK)).cells 217 (0, 0)) :: (HN5 ++ (HL ++ HX))) rfl Tryz.sizeOf32 trivial rfl rfl (by rcases (Rdb.of_x hR6) with ⟨h, _⟩ | ⟨_, _, _, h, _⟩ <;> rw [h] <;> rfl) (by rcases (Rdb.of_x hR6) with ⟨h, _⟩ | ⟨_, _, _, h, _⟩ <;> rw [h] <;> rfl) rfl rfl rfl rfl (.inr (by simp [keys])) ?_
    refine TE_nil0 ?_
    refine pn_seq ?_
    refine pn_block ?_
    refine pn_loopS (σ := S8 × Value × (List UInt8)) (fun q => [(0, .pointer (some ⟨r, 0, none⟩))]) (fun q => ((r, .cells #[.bool true, .int .u32 (((s8f q.1) 0).toNat : Int), .int .u32 (((s8f q.1) 1).toNat : Int), .int .u32 (((s8f q.1) 2).toNat : Int), .int .u32 (((s8f q.1) 3).toNat : Int), .int .u32 (((s8f q.1) 4).toNat : Int), .int .u32 (((s8f q.1) 5).toNat : Int), .int .u32 (((s8f q.1) 6).toNat : Int), .int .u32 (((s8f q.1) 7).toNat : Int), q.2.1, .int .i64 ((many : Int) + (bb.length : Int))] 109 (0, 0)) :: (0, .cells (wfV 8 (s8f s00)).cells 107 (0, 0)) :: (1, .cells (wfV 64 (gtf shaK)).cells 217 (0, 0)) :: (HN5 ++ (HL ++ HX)))) (fun q => (Rdb (HN5 ++ HL) q.2.1 q.2.2) ∧ (shaAll q.1 q.2.2 = shaAll (bif bg then s else s00) (ll ++ bb)) ∧ (shaLeft q.2.2 = shaLeft (ll ++ bb)) ∧ (q.2.2.length ≤ 2000000)) (fun q => q.2.2.length) (s00, lv4, (ll ++ bb)) ⟨((Rdb.of_x hR6).mono (fun _ hw => hw.sp (fun a => by simp -failIfUnchanged <;> omega))), (by rw [hc1]; rfl), rfl, (by simp; omega)⟩ ⟨rfl, trivial⟩ (fun a => by simp -failIfUnchanged <;> omega) ?_
    rintro ⟨ss, lv9, ll9⟩ ⟨hb9, hs9, hl9, hn9⟩
    dsimp only at hb9 hs9 hl9 hn9 ⊢
    refine pn_seq ?_
    refine pn_seq ?_
    refine pn_plain [4] rfl ?_
    refine TE_q rfl rfl (RD.move rfl) rfl ?_
    refine TE_q rfl rfl (RD.nilCheckP rfl) rfl ?_
    refine TE_q rfl rfl (RD.fieldAddr (o := 9) Tryz.runUnderlying109 rfl rfl Tryz.sizeOf32 rfl) rfl ?_
    refine TE_l rfl rfl trivial rfl (RD.load (i := 0) Tryz.isAgg32 rfl rfl rfl) rfl ?_
    refine TE_q rfl rfl (RD.lenR Tryz.runUnderlying32 rfl hb9) rfl ?_
    refine TE_q rfl rfl (RD.geq rfl rfl) rfl ?_
    refine TE_nil0 ?_
    refine pn_condD rfl (fun hc8 => ?_) (fun hc8 => ?_)
    · refine pn_skip ?_
      refine pn_block ?_
      refine pn_seq ?_
      refine pn_plain [] rfl ?_
      refine TE_allocC (bfV 64 (fun _ => 0)).cells rfl Tryz.zeroValue172 (by kernel_rfl) trivial rfl fun b5 hb5 => ?_
      refine TE_nil0 ?_
      refine pn_seq ?_
      refine pn_drawG [4] [(b5, .cells (bfV 64 (fun _ => 0)).cells 172 (0, 0))] ((r, .cells #[.bool true, .int .u32 (((s8f ss) 0).toNat : Int), .int .u32 (((s8f ss) 1).toNat : Int), .int .u32 (((s8f ss) 2).toNat : Int), .int .u32 (((s8f ss) 3).toNat : Int), .int .u32 (((s8f ss) 4).toNat : Int), .int .u32 (((s8f ss) 5).toNat : Int), .int .u32 (((s8f ss) 6).toNat : Int), .int .u32 (((s8f ss) 7).toNat : Int), lv9, .int .i64 ((many : Int) + (bb.length : Int))] 109 (0, 0)) :: (0, .cells (wfV 8 (s8f s00)).cells 107 (0, 0)) :: (1, .cells (wfV 64 (gtf shaK)).cells 217 (0, 0)) :: (HN5 ++ (HL ++ HX))) rfl rfl (by kernel_rfl) (fun a => by simp -failIfUnchanged <;> omega) ?_
      refine TE_q rfl rfl (RD.sliceA Tryz.runUnderlying172 Tryz.sizeOf5 rfl rfl (Nat.le_refl _)) rfl ?_
      refine TE_q rfl rfl (RD.move rfl) rfl ?_
      refine TE_q rfl rfl (RD.nilCheckP rfl) rfl ?_
      refine TE_q rfl rfl (RD.fieldAddr (o := 9) Tryz.runUnderlying109 rfl rfl Tryz.sizeOf32 rfl) rfl ?_
      refine TE_q rfl rfl (RD.load (i := 0) Tryz.isAgg32 rfl rfl rfl) rfl ?_
      refine TE_copyM 0 64 ll9 (bfV 64 (fun _ => 0)).cells (bfV 64 (gtf (ll9.take 64))).cells [(b5, .cells (bfV 64 (gtf (ll9.take 64))).cells 172 (0, 0))] rfl rfl trivial rfl Tryz.underlying32 Tryz.sizeOf5 elByteR byteC_len byteC_one rfl rfl (Rdx.of_b hb9) (fun _ hw => hw.sp (fun a => by simp -failIfUnchanged <;> omega)) (by omega) rfl (by show 0 + 64 ≤ 64; decide) (.inl hb5) (put_b64 _ (by omega)) rfl ?_
      refine TE_nil ?_
      refine pn_seq ?_
      refine pn_drawG [5] [(r, .cells #[.bool true, .int .u32 (((s8f ss) 0).toNat : Int), .int .u32 (((s8f ss) 1).toNat : Int), .int .u32 (((s8f ss) 2).toNat : Int), .int .u32 (((s8f ss) 3).toNat : Int), .int .u32 (((s8f ss) 4).toNat : Int), .int .u32 (((s8f ss) 5).toNat : Int), .int .u32 (((s8f ss) 6).toNat : Int), .int .u32 (((s8f ss) 7).toNat : Int), lv9, .int .i64 ((many : Int) + (bb.length : Int))] 109 (0, 0))] ((b5, .cells (bfV 64 (gtf (ll9.take 64))).cells 172 (0, 0)) :: (0, .cells (wfV 8 (s8f s00)).cells 107 (0, 0)) :: (1, .cells (wfV 64 (gtf shaK)).cells 217 (0, 0)) :: (HN5 ++ (HL ++ HX))) rfl rfl (by kernel_rfl) (fun a => by simp -failIfUnchanged <;> omega) ?_
      refine TE_q rfl rfl (RD.move rfl) rfl ?_
      refine TE_q rfl rfl (RD.move rfl) rfl ?_
      refine TE_q rfl rfl (RD.nilCheckP rfl) rfl ?_
      refine TE_q rfl rfl (RD.fieldAddr (o := 1) Tryz.runUnderlying109 rfl rfl Tryz.sizeOf107 rfl) rfl ?_
      refine TE_l rfl rfl trivial rfl (RD.loadA (i := 0) (v := wfV 8 (s8f ss)) Tryz.isAgg107 Tryz.sizeOf107 rfl rfl (Nat.le_of_ble_eq_true rfl) rfl) rfl ?_
      refine TE_q rfl rfl (RD.loadA (i := 0) Tryz.isAgg172 Tryz.sizeOf172 rfl rfl (Nat.le_of_ble_eq_true rfl) (bf_all 64 _)) rfl ?_
      refine TE_callG _ [(1, .cells (wfV 64 (gtf shaK)).cells 217 (0, 0))] rfl rfl trivial Tryz.call106 rfl rfl rfl (fun w hw => c_mixed ss (ll9.take 64) w  (hw.sp (fun a => by simp -failIfUnchanged <;> omega))) (fun a => by simp -failIfUnchanged <;> omega) ?_
      rintro v9 H10 ⟨rfl, rfl⟩ -
      refine TE_q rfl rfl (RD.nilCheckP rfl) rfl ?_
      refine TE_q rfl rfl (RD.fieldAddr (o := 1) Tryz.runUnderlying109 rfl rfl Tryz.sizeOf107 rfl) rfl ?_
      refine TE_putC 0 #[.bool true, .int .u32 (((s8f ss) 0).toNat : Int), .int .u32 (((s8f ss) 1).toNat : Int), .int .u32 (((s8f ss) 2).toNat : Int), .int .u32 (((s8f ss) 3).toNat : Int), .int .u32 (((s8f ss) 4).toNat : Int), .int .u32 (((s8f ss) 5).toNat : Int), .int .u32 (((s8f ss) 6).toNat : Int), .int .u32 (((s8f ss) 7).toNat : Int), lv9, .int .i64 ((many : Int) + (bb.length : Int))] #[.bool true, .int .u32 (((s8f (shaMix ss (ll9.take 64))) 0).toNat : Int), .int .u32 (((s8f (shaMix ss (ll9.take 64))) 1).toNat : Int), .int .u32 (((s8f (shaMix ss (ll9.take 64))) 2).toNat : Int), .int .u32 (((s8f (shaMix ss (ll9.take 64))) 3).toNat : Int), .int .u32 (((s8f (shaMix ss (ll9.take 64))) 4).toNat : Int), .int .u32 (((s8f (shaMix ss (ll9.take 64))) 5).toNat : Int), .int .u32 (((s8f (shaMix ss (ll9.take 64))) 6).toNat : Int), .int .u32 (((s8f (shaMix ss (ll9.take 64))) 7).toNat : Int), lv9, .int .i64 ((many : Int) + (bb.length : Int))] [(r, .cells #[.bool true, .int .u32 (((s8f (shaMix ss (ll9.take 64))) 0).toNat : Int), .int .u32 (((s8f (shaMix ss (ll9.take 64))) 1).toNat : Int), .int .u32 (((s8f (shaMix ss (ll9.take 64))) 2).toNat : Int), .int .u32 (((s8f (shaMix ss (ll9.take 64))) 3).toNat : Int), .int .u32 (((s8f (shaMix ss (ll9.take 64))) 4).toNat : Int), .int .u32 (((s8f (shaMix ss (ll9.take 64))) 5).toNat : Int), .int .u32 (((s8f (shaMix ss (ll9.take 64))) 6).toNat : Int), .int .u32 (((s8f (shaMix ss (ll9.take 64))) 7).toNat : Int), lv9, .int .i64 ((many : Int) + (bb.length : Int))] 109 (0, 0))] rfl Tryz.sizeOf107 trivial rfl rfl (by kernel_rfl) (wf_one 8 _) rfl rfl (by kernel_rfl) rfl (.inr (by simp [keys])) ?_
      refine TE_nil ?_
      refine pn_plainG [] ((r, .cells #[.bool true, .int .u32 (((s8f (shaMix ss (ll9.take 64))) 0).toNat : Int), .int .u32 (((s8f (shaMix ss (ll9.take 64))) 1).toNat : Int), .int .u32 (((s8f (shaMix ss (ll9.take 64))) 2).toNat : Int), .int .u32 (((s8f (shaMix ss (ll9.take 64))) 3).toNat : Int), .int .u32 (((s8f (shaMix ss (ll9.take 64))) 4).toNat : Int), .int .u32 (((s8f (shaMix ss (ll9.take 64))) 5).toNat : Int), .int .u32 (((s8f (shaMix ss (ll9.take 64))) 6).toNat : Int), .int .u32 (((s8f (shaMix ss (ll9.take 64))) 7).toNat : Int), lv9, .int .i64 ((many : Int) + (bb.length : Int))] 109 (0, 0)) :: (b5, .cells (bfV 64 (gtf (ll9.take 64))).cells 172 (0, 0)) :: (0, .cells (wfV 8 (s8f s00)).cells 107 (0, 0)) :: (1, .cells (wfV 64 (gtf shaK)).cells 217 (0, 0)) :: (HN5 ++ (HL ++ HX))) rfl (fun a => by simp -failIfUnchanged <;> omega) ?_
      refine TE_q rfl rfl (RD.move rfl) rfl ?_
      refine TE_q rfl rfl (RD.move rfl) rfl ?_
      refine TE_q rfl rfl (RD.nilCheckP rfl) rfl ?_
      refine TE_q rfl rfl (RD.fieldAddr (o := 9) Tryz.runUnderlying109 rfl rfl Tryz.sizeOf32 rfl) rfl ?_
      refine TE_l rfl rfl trivial rfl (RD.load (i := 0) Tryz.isAgg32 rfl rfl rfl) rfl ?_
      refine TE_q rfl rfl (RD.sliceR (l := 64) (h := ll9.length) Tryz.runUnderlying32 Tryz.sizeOf5 rfl hb9 ⟨_, rfl⟩ rfl (by omega) (Nat.le_refl _)) rfl ?_
      refine TE_q rfl rfl (RD.nilCheckP rfl) rfl ?_
      refine TE_q rfl rfl (RD.fieldAddr (o := 9) Tryz.runUnderlying109 rfl rfl Tryz.sizeOf32 rfl) rfl ?_
      refine TE_storeC 0 #[.bool true, .int .u32 (((s8f (shaMix ss (ll9.take 64))) 0).toNat : Int), .int .u32 (((s8f (shaMix ss (ll9.take 64))) 1).toNat : Int), .int .u32 (((s8f (shaMix ss (ll9.take 64))) 2).toNat : Int), .int .u32 (((s8f (shaMix ss (ll9.take 64))) 3).toNat : Int), .int .u32 (((s8f (shaMix ss (ll9.take 64))) 4).toNat : Int), .int .u32 (((s8f (shaMix ss (ll9.take 64))) 5).toNat : Int), .int .u32 (((s8f (shaMix ss (ll9.take 64))) 6).toNat : Int), .int .u32 (((s8f (shaMix ss (ll9.take 64))) 7).toNat : Int), lv9, .int .i64 ((many : Int) + (bb.length : Int))] #[.bool true, .int .u32 (((s8f (shaMix ss (ll9.take 64))) 0).toNat : Int), .int .u32 (((s8f (shaMix ss (ll9.take 64))) 1).toNat : Int), .int .u32 (((s8f (shaMix ss (ll9.take 64))) 2).toNat : Int), .int .u32 (((s8f (shaMix ss (ll9.take 64))) 3).toNat : Int), .int .u32 (((s8f (shaMix ss (ll9.take 64))) 4).toNat : Int), .int .u32 (((s8f (shaMix ss (ll9.take 64))) 5).toNat : Int), .int .u32 (((s8f (shaMix ss (ll9.take 64))) 6).toNat : Int), .int .u32 (((s8f (shaMix ss (ll9.take 64))) 7).toNat : Int), subV 64 ll9.length lv9, .int .i64 ((many : Int) + (bb.length : Int))] ((r, .cells #[.bool true, .int .u32 (((s8f (shaMix ss (ll9.take 64))) 0).toNat : Int), .int .u32 (((s8f (shaMix ss (ll9.take 64))) 1).toNat : Int), .int .u32 (((s8f (shaMix ss (ll9.take 64))) 2).toNat : Int), .int .u32 (((s8f (shaMix ss (ll9.take 64))) 3).toNat : Int), .int .u32 (((s8f (shaMix ss (ll9.take 64))) 4).toNat : Int), .int .u32 (((s8f (shaMix ss (ll9.take 64))) 5).toNat : Int), .int .u32 (((s8f (shaMix ss (ll9.take 64))) 6).toNat : Int), .int .u32 (((s8f (shaMix ss (ll9.take 64))) 7).toNat : Int), subV 64 ll9.length lv9, .int .i64 ((many : Int) + (bb.length : Int))] 109 (0, 0)) :: (b5, .cells (bfV 64 (gtf (ll9.take 64))).cells 172 (0, 0)) :: (0, .cells (wfV 8 (s8f s00)).cells 107 (0, 0)) :: (1, .cells (wfV 64 (gtf shaK)).cells 217 (0, 0)) :: (HN5 ++ (HL ++ HX))) rfl Tryz.sizeOf32 trivial rfl rfl (by rcases (hb9.sub (l := 64) (r := ll9.length) (by omega) (Nat.le_refl _)) with ⟨h, _⟩ | ⟨_, _, _, h, _⟩ <;> rw [h] <;> rfl) (by rcases (hb9.sub (l := 64) (r := ll9.length) (by omega) (Nat.le_refl _)) with ⟨h, _⟩ | ⟨_, _, _, h, _⟩ <;> rw [h] <;> rfl) rfl rfl rfl rfl (.inr (by simp [keys])) ?_
      refine TE_nil0 ?_
      exact pn_againS ((shaMix ss (ll9.take 64)), subV 64 ll9.length lv9, ((ll9.take ll9.length).drop 64)) ⟨((hb9.sub (l := 64) (r := ll9.length) (by omega) (Nat.le_refl _))), (by dsimp only; rw [List.take_length, ← shaAll_go (l := ll9) (by omega)]; exact hs9), (by dsimp only; rw [List.take_length, shaLeft_go (by omega)]; exact hl9), (by simp; omega)⟩ (by simp; omega) ⟨rfl, trivial⟩ (fun a => by simp -failIfUnchanged <;> omega)
    · refine pn_exit ?_
      refine pn_seq ?_
      refine pn_plain [] rfl ?_
      refine TE_q rfl rfl (RD.move rfl) rfl ?_
      refine TE_q rfl rfl (RD.assign rfl) rfl ?_
      refine TE_nil0 ?_
      refine pn_ret ?_
      have h64 : ¬ 64 ≤ ll9.length := (by omega)
      rw [shaAll_end h64] at hs9
      rw [shaLeft_end h64] at hl9
      exact pn_doneS ((r, .cells #[.bool true, .int .u32 (((s8f ss) 0).toNat : Int), .int .u32 (((s8f ss) 1).toNat : Int), .int .u32 (((s8f ss) 2).toNat : Int), .int .u32 (((s8f ss) 3).toNat : Int), .int .u32 (((s8f ss) 4).toNat : Int), .int .u32 (((s8f ss) 5).toNat : Int), .int .u32 (((s8f ss) 6).toNat : Int), .int .u32 (((s8f ss) 7).toNat : Int), lv9, .int .i64 ((many : Int) + (bb.length : Int))] 109 (0, 0)) :: (HN5 ++ HL)) rfl rfl ⟨lv9, HN5, (by rw [← hl9]; exact hb9), rfl, (by rw [← hs9])⟩ (fun a => by simp -failIfUnchanged <;> omega) (ownC (.inr (by simp [keys])) (ownA hX7 (fun e he => .inr (List.mem_cons_of_mem _ (List.mem_map_of_mem he)))))
  · simp only [Bool.not_eq_false'] at hc1
    refine pn_skip ?_
    refine pn_seq ?_
    refine pn_plain [5] rfl ?_
    refine TE_q rfl rfl (RD.move rfl) rfl ?_
    refine TE_q rfl rfl (RD.nilCheckP rfl) rfl ?_
    refine TE_q rfl rfl (RD.fieldAddr (o := 10) Tryz.runUnderlying109 rfl rfl Tryz.sizeOf3 rfl) rfl ?_
    refine TE_l rfl rfl trivial rfl (RD.load (i := 0) Tryz.isAgg3 rfl rfl rfl) rfl ?_
    refine TE_q rfl rfl (RD.move rfl) rfl ?_
    refine TE_q rfl rfl (RD.lenR Tryz.runUnderlying32 rfl hbbb) rfl ?_
    refine TE_q rfl rfl (RD.addI rfl rfl (by omega) (by omega)) rfl ?_
    refine TE_q rfl rfl (RD.nilCheckP rfl) rfl ?_
    refine TE_q rfl rfl (RD.fieldAddr (o := 10) Tryz.runUnderlying109 rfl rfl Tryz.sizeOf3 rfl) rfl ?_
    refine TE_storeC 0 #[.bool bg, .int .u32 (((s8f s) 0).toNat : Int), .int .u32 (((s8f s) 1).toNat : Int), .int .u32 (((s8f s) 2).toNat : Int), .int .u32 (((s8f s) 3).toNat : Int), .int .u32 (((s8f s) 4).toNat : Int), .int .u32 (((s8f s) 5).toNat : Int), .int .u32 (((s8f s) 6).toNat : Int), .int .u32 (((s8f s) 7).toNat : Int), lv, .int .i64 (many : Int)] #[.bool bg, .int .u32 (((s8f s) 0).toNat : Int), .int .u32 (((s8f s) 1).toNat : Int), .int .u32 (((s8f s) 2).toNat : Int), .int .u32 (((s8f s) 3).toNat : Int), .int .u32 (((s8f s) 4).toNat : Int), .int .u32 (((s8f s) 5).toNat : Int), .int .u32 (((s8f s) 6).toNat : Int), .int .u32 (((s8f s) 7).toNat : Int), lv, .int .i64 ((many : Int) + (bb.length : Int))] ((r, .cells #[.bool bg, .int .u32 (((s8f s) 0).toNat : Int), .int .u32 (((s8f s) 1).toNat : Int), .int .u32 (((s8f s) 2).toNat : Int), .int .u32 (((s8f s) 3).toNat : Int), .int .u32 (((s8f s) 4).toNat : Int), .int .u32 (((s8f s) 5).toNat : Int), .int .u32 (((s8f s) 6).toNat : Int), .int .u32 (((s8f s) 7).toNat : Int), lv, .int .i64 ((many : Int) + (bb.length : Int))] 109 (0, 0)) :: (0, .cells (wfV 8 (s8f s00)).cells 107 (0, 0)) :: (1, .cells (wfV 64 (gtf shaK)).cells 217 (0, 0)) :: (HL ++ HX)) rfl Tryz.sizeOf3 trivial rfl rfl rfl rfl rfl rfl rfl rfl (.inr (by simp [keys])) ?_
    refine TE_nil0 ?_
    refine pn_seq ?_
    refine pn_plain [] rfl ?_
    refine TE_q rfl rfl (RD.move rfl) rfl ?_
    refine TE_q rfl rfl (RD.move rfl) rfl ?_
    refine TE_q rfl rfl (RD.nilCheckP rfl) rfl ?_
    refine TE_q rfl rfl (RD.fieldAddr (o := 9) Tryz.runUnderlying109 rfl rfl Tryz.sizeOf32 rfl) rfl ?_
    refine TE_l rfl rfl trivial rfl (RD.load (i := 0) Tryz.isAgg32 rfl rfl rfl) rfl ?_
    refine TE_callG _ HL rfl rfl trivial Tryz.call105 rfl rfl rfl (fun w hw => c_clip lv ll HL w (hbll.mono (fun _ hw => hw.sp (fun a => by simp -failIfUnchanged <;> omega))) (hw.sp (fun a => by simp -failIfUnchanged <;> omega))) (fun a => by simp -failIfUnchanged <;> omega) ?_
    rintro v11 H12 ⟨rfl, rfl⟩ -
    refine TE_q rfl rfl (RD.move rfl) rfl ?_
    refine TE_appendC (v := lv) (xs := ll) (ys := bb) byteC_len byteC_one rfl rfl trivial rfl Tryz.underlying32 elByteR rfl rfl rfl rfl (Rdx.of_b hbll) (fun _ hw => hw.sp (fun a => by simp -failIfUnchanged <;> omega)) (Rdx.of_b hbbb) (fun _ hw => hw.sp (fun a => by simp -failIfUnchanged <;> omega)) (by omega) rfl ?_
    intro lv13 HN14 hR15 hX16
    refine TE_sp ((r, .cells #[.bool bg, .int .u32 (((s8f s) 0).toNat : Int), .int .u32 (((s8f s) 1).toNat : Int), .int .u32 (((s8f s) 2).toNat : Int), .int .u32 (((s8f s) 3).toNat : Int), .int .u32 (((s8f s) 4).toNat : Int), .int .u32 (((s8f s) 5).toNat : Int), .int .u32 (((s8f s) 6).toNat : Int), .int .u32 (((s8f s) 7).toNat : Int), lv, .int .i64 ((many : Int) + (bb.length : Int))] 109 (0, 0)) :: (0, .cells (wfV 8 (s8f s00)).cells 107 (0, 0)) :: (1, .cells (wfV 64 (gtf shaK)).cells 217 (0, 0)) :: (HN14 ++ (HL ++ HX))) (fun a => by simp -failIfUnchanged <;> omega) ?_
    refine TE_q rfl rfl (RD.nilCheckP rfl) rfl ?_
    refine TE_q rfl rfl (RD.fieldAddr (o := 9) Tryz.runUnderlying109 rfl rfl Tryz.sizeOf32 rfl) rfl ?_
    refine TE_storeC 0 #[.bool bg, .int .u32 (((s8f s) 0).toNat : Int), .int .u32 (((s8f s) 1).toNat : Int), .int .u32 (((s8f s) 2).toNat : Int), .int .u32 (((s8f s) 3).toNat : Int), .int .u32 (((s8f s) 4).toNat : Int), .int .u32 (((s8f s) 5).toNat : Int), .int .u32 (((s8f s) 6).toNat : Int), .int .u32 (((s8f s) 7).toNat : Int), lv, .int .i64 ((many : Int) + (bb.length : Int))] #[.bool bg, .int .u32 (((s8f s) 0).toNat : Int), .int .u32 (((s8f s) 1).toNat : Int), .int .u32 (((s8f s) 2).toNat : Int), .int .u32 (((s8f s) 3).toNat : Int), .int .u32 (((s8f s) 4).toNat : Int), .int .u32 (((s8f s) 5).toNat : Int), .int .u32 (((s8f s) 6).toNat : Int), .int .u32 (((s8f s) 7).toNat : Int), lv13, .int .i64 ((many : Int) + (bb.length : Int))] ((r, .cells #[.bool bg, .int .u32 (((s8f s) 0).toNat : Int), .int .u32 (((s8f s) 1).toNat : Int), .int .u32 (((s8f s) 2).toNat : Int), .int .u32 (((s8f s) 3).toNat : Int), .int .u32 (((s8f s) 4).toNat : Int), .int .u32 (((s8f s) 5).toNat : Int), .int .u32 (((s8f s) 6).toNat : Int), .int .u32 (((s8f s) 7).toNat : Int), lv13, .int .i64 ((many : Int) + (bb.length : Int))] 109 (0, 0)) :: (0, .cells (wfV 8 (s8f s00)).cells 107 (0, 0)) :: (1, .cells (wfV 64 (gtf shaK)).cells 217 (0, 0)) :: (HN14 ++ (HL ++ HX))) rfl Tryz.sizeOf32 trivial rfl rfl (by rcases (Rdb.of_x hR15) with ⟨h, _⟩ | ⟨_, _, _, h, _⟩ <;> rw [h] <;> rfl) (by rcases (Rdb.of_x hR15) with ⟨h, _⟩ | ⟨_, _, _, h, _⟩ <;> rw [h] <;> rfl) rfl rfl rfl rfl (.inr (by simp [keys])) ?_
    refine TE_nil0 ?_
    refine pn_seq ?_
    refine pn_block ?_
    refine pn_loopS (σ := S8 × Value × (List UInt8)) (fun q => [(0, .pointer (some ⟨r, 0, none⟩))]) (fun q => ((r, .cells #[.bool bg, .int .u32 (((s8f q.1) 0).toNat : Int), .int .u32 (((s8f q.1) 1).toNat : Int), .int .u32 (((s8f q.1) 2).toNat : Int), .int .u32 (((s8f q.1) 3).toNat : Int), .int .u32 (((s8f q.1) 4).toNat : Int), .int .u32 (((s8f q.1) 5).toNat : Int), .int .u32 (((s8f q.1) 6).toNat : Int), .int .u32 (((s8f q.1) 7).toNat : Int), q.2.1, .int .i64 ((many : Int) + (bb.length : Int))] 109 (0, 0)) :: (0, .cells (wfV 8 (s8f s00)).cells 107 (0, 0)) :: (1, .cells (wfV 64 (gtf shaK)).cells 217 (0, 0)) :: (HN14 ++ (HL ++ HX)))) (fun q => (Rdb (HN14 ++ HL) q.2.1 q.2.2) ∧ (shaAll q.1 q.2.2 = shaAll (bif bg then s else s00) (ll ++ bb)) ∧ (shaLeft q.2.2 = shaLeft (ll ++ bb)) ∧ (q.2.2.length ≤ 2000000)) (fun q => q.2.2.length) (s, lv13, (ll ++ bb)) ⟨((Rdb.of_x hR15).mono (fun _ hw => hw.sp (fun a => by simp -failIfUnchanged <;> omega))), (by rw [hc1]; rfl), rfl, (by simp; omega)⟩ ⟨rfl, trivial⟩ (fun a => by simp -failIfUnchanged <;> omega) ?_
    rintro ⟨ss, lv9, ll9⟩ ⟨hb9, hs9, hl9, hn9⟩
    dsimp only at hb9 hs9 hl9 hn9 ⊢
    refine pn_seq ?_
    refine pn_seq ?_
    refine pn_plain [4] rfl ?_
    refine TE_q rfl rfl (RD.move rfl) rfl ?_
    refine TE_q rfl rfl (RD.nilCheckP rfl) rfl ?_
    refine TE_q rfl rfl (RD.fieldAddr (o := 9) Tryz.runUnderlying109 rfl rfl Tryz.sizeOf32 rfl) rfl ?_
    refine TE_l rfl rfl trivial rfl (RD.load (i := 0) Tryz.isAgg32 rfl rfl rfl) rfl ?_
    refine TE_q rfl rfl (RD.lenR Tryz.runUnderlying32 rfl hb9) rfl ?_
    refine TE_q rfl rfl (RD.geq rfl rfl) rfl ?_
    refine TE_nil0 ?_
    refine pn_condD rfl (fun hc17 => ?_) (fun hc17 => ?_)
    · refine pn_skip ?_
      refine pn_block ?_
      refine pn_seq ?_
      refine pn_plain [] rfl ?_
      refine TE_allocC (bfV 64 (fun _ => 0)).cells rfl Tryz.zeroValue172 (by kernel_rfl) trivial rfl fun b5 hb5 => ?_
      refine TE_nil0 ?_
      refine pn_seq ?_
      refine pn_drawG [4] [(b5, .cells (bfV 64 (fun _ => 0)).cells 172 (0, 0))] ((r, .cells #[.bool bg, .int .u32 (((s8f ss) 0).toNat : Int), .int .u32 (((s8f ss) 1).toNat : Int), .int .u32 (((s8f ss) 2).toNat : Int), .int .u32 (((s8f ss) 3).toNat : Int), .int .u32 (((s8f ss) 4).toNat : Int), .int .u32 (((s8f ss) 5).toNat : Int), .int .u32 (((s8f ss) 6).toNat : Int), .int .u32 (((s8f ss) 7).toNat : Int), lv9, .int .i64 ((many : Int) + (bb.length : Int))] 109 (0, 0)) :: (0, .cells (wfV 8 (s8f s00)).cells 107 (0, 0)) :: (1, .cells (wfV 64 (gtf shaK)).cells 217 (0, 0)) :: (HN14 ++ (HL ++ HX))) rfl rfl (by kernel_rfl) (fun a => by simp -failIfUnchanged <;> omega) ?_
      refine TE_q rfl rfl (RD.sliceA Tryz.runUnderlying172 Tryz.sizeOf5 rfl rfl (Nat.le_refl _)) rfl ?_
      refine TE_q rfl rfl (RD.move rfl) rfl ?_
      refine TE_q rfl rfl (RD.nilCheckP rfl) rfl ?_
      refine TE_q rfl rfl (RD.fieldAddr (o := 9) Tryz.runUnderlying109 rfl rfl Tryz.sizeOf32 rfl) rfl ?_
      refine TE_q rfl rfl (RD.load (i := 0) Tryz.isAgg32 rfl rfl rfl) rfl ?_
      refine TE_copyM 0 64 ll9 (bfV 64 (fun _ => 0)).cells (bfV 64 (gtf (ll9.take 64))).cells [(b5, .cells (bfV 64 (gtf (ll9.take 64))).cells 172 (0, 0))] rfl rfl trivial rfl Tryz.underlying32 Tryz.sizeOf5 elByteR byteC_len byteC_one rfl rfl (Rdx.of_b hb9) (fun _ hw => hw.sp (fun a => by simp -failIfUnchanged <;> omega)) (by omega) rfl (by show 0 + 64 ≤ 64; decide) (.inl hb5) (put_b64 _ (by omega)) rfl ?_
      refine TE_nil ?_
      refine pn_seq ?_
      refine pn_drawG [5] [(r, .cells #[.bool bg, .int .u32 (((s8f ss) 0).toNat : Int), .int .u32 (((s8f ss) 1).toNat : Int), .int .u32 (((s8f ss) 2).toNat : Int), .int .u32 (((s8f ss) 3).toNat : Int), .int .u32 (((s8f ss) 4).toNat : Int), .int .u32 (((s8f ss) 5).toNat : Int), .int .u32 (((s8f ss) 6).toNat : Int), .int .u32 (((s8f ss) 7).toNat : Int), lv9, .int .i64 ((many : Int) + (bb.length : Int))] 109 (0, 0))] ((b5, .cells (bfV 64 (gtf (ll9.take 64))).cells 172 (0, 0)) :: (0, .cells (wfV 8 (s8f s00)).cells 107 (0, 0)) :: (1, .cells (wfV 64 (gtf shaK)).cells 217 (0, 0)) :: (HN14 ++ (HL ++ HX))) rfl rfl (by kernel_rfl) (fun a => by simp -failIfUnchanged <;> omega) ?_
      refine TE_q rfl rfl (RD.move rfl) rfl ?_
      refine TE_q rfl rfl (RD.move rfl) rfl ?_
      refine TE_q rfl rfl (RD.nilCheckP rfl) rfl ?_
      refine TE_q rfl rfl (RD.fieldAddr (o := 1) Tryz.runUnderlying109 rfl rfl Tryz.sizeOf107 rfl) rfl ?_
      refine TE_l rfl rfl trivial rfl (RD.loadA (i := 0) (v := wfV 8 (s8f ss)) Tryz.isAgg107 Tryz.sizeOf107 rfl rfl (Nat.le_of_ble_eq_true rfl) rfl) rfl ?_
      refine TE_q rfl rfl (RD.loadA (i := 0) Tryz.isAgg172 Tryz.sizeOf172 rfl rfl (Nat.le_of_ble_eq_true rfl) (bf_all 64 _)) rfl ?_
      refine TE_callG _ [(1, .cells (wfV 64 (gtf shaK)).cells 217 (0, 0))] rfl rfl trivial Tryz.call106 rfl rfl rfl (fun w hw => c_mixed ss (ll9.take 64) w  (hw.sp (fun a => by simp -failIfUnchanged <;> omega))) (fun a => by simp -failIfUnchanged <;> omega) ?_
      rintro v18 H19 ⟨rfl, rfl⟩ -
      refine TE_q rfl rfl (RD.nilCheckP rfl) rfl ?_
      refine TE_q rfl rfl (RD.fieldAddr (o := 1) Tryz.runUnderlying109 rfl rfl Tryz.sizeOf107 rfl) rfl ?_
      refine TE_putC 0 #[.bool bg, .int .u32 (((s8f ss) 0).toNat : Int), .int .u32 (((s8f ss) 1).toNat : Int), .int .u32 (((s8f ss) 2).toNat : Int), .int .u32 (((s8f ss) 3).toNat : Int), .int .u32 (((s8f ss) 4).toNat : Int), .int .u32 (((s8f ss) 5).toNat : Int), .int .u32 (((s8f ss) 6).toNat : Int), .int .u32 (((s8f ss) 7).toNat : Int), lv9, .int .i64 ((many : Int) + (bb.length : Int))] #[.bool bg, .int .u32 (((s8f (shaMix ss (ll9.take 64))) 0).toNat : Int), .int .u32 (((s8f (shaMix ss (ll9.take 64))) 1).toNat : Int), .int .u32 (((s8f (shaMix ss (ll9.take 64))) 2).toNat : Int), .int .u32 (((s8f (shaMix ss (ll9.take 64))) 3).toNat : Int), .int .u32 (((s8f (shaMix ss (ll9.take 64))) 4).toNat : Int), .int .u32 (((s8f (shaMix ss (ll9.take 64))) 5).toNat : Int), .int .u32 (((s8f (shaMix ss (ll9.take 64))) 6).toNat : Int), .int .u32 (((s8f (shaMix ss (ll9.take 64))) 7).toNat : Int), lv9, .int .i64 ((many : Int) + (bb.length : Int))] [(r, .cells #[.bool bg, .int .u32 (((s8f (shaMix ss (ll9.take 64))) 0).toNat : Int), .int .u32 (((s8f (shaMix ss (ll9.take 64))) 1).toNat : Int), .int .u32 (((s8f (shaMix ss (ll9.take 64))) 2).toNat : Int), .int .u32 (((s8f (shaMix ss (ll9.take 64))) 3).toNat : Int), .int .u32 (((s8f (shaMix ss (ll9.take 64))) 4).toNat : Int), .int .u32 (((s8f (shaMix ss (ll9.take 64))) 5).toNat : Int), .int .u32 (((s8f (shaMix ss (ll9.take 64))) 6).toNat : Int), .int .u32 (((s8f (shaMix ss (ll9.take 64))) 7).toNat : Int), lv9, .int .i64 ((many : Int) + (bb.length : Int))] 109 (0, 0))] rfl Tryz.sizeOf107 trivial rfl rfl (by kernel_rfl) (wf_one 8 _) rfl rfl (by kernel_rfl) rfl (.inr (by simp [keys])) ?_
      refine TE_nil ?_
      refine pn_plainG [] ((r, .cells #[.bool bg, .int .u32 (((s8f (shaMix ss (ll9.take 64))) 0).toNat : Int), .int .u32 (((s8f (shaMix ss (ll9.take 64))) 1).toNat : Int), .int .u32 (((s8f (shaMix ss (ll9.take 64))) 2).toNat : Int), .int .u32 (((s8f (shaMix ss (ll9.take 64))) 3).toNat : Int), .int .u32 (((s8f (shaMix ss (ll9.take 64))) 4).toNat : Int), .int .u32 (((s8f (shaMix ss (ll9.take 64))) 5).toNat : Int), .int .u32 (((s8f (shaMix ss (ll9.take 64))) 6).toNat : Int), .int .u32 (((s8f (shaMix ss (ll9.take 64))) 7).toNat : Int), lv9, .int .i64 ((many : Int) + (bb.length : Int))] 109 (0, 0)) :: (b5, .cells (bfV 64 (gtf (ll9.take 64))).cells 172 (0, 0)) :: (0, .cells (wfV 8 (s8f s00)).cells 107 (0, 0)) :: (1, .cells (wfV 64 (gtf shaK)).cells 217 (0, 0)) :: (HN14 ++ (HL ++ HX))) rfl (fun a => by simp -failIfUnchanged <;> omega) ?_
      refine TE_q rfl rfl (RD.move rfl) rfl ?_
      refine TE_q rfl rfl (RD.move rfl) rfl ?_
      refine TE_q rfl rfl (RD.nilCheckP rfl) rfl ?_
      refine TE_q rfl rfl (RD.fieldAddr (o := 9) Tryz.runUnderlying109 rfl rfl Tryz.sizeOf32 rfl) rfl ?_
      refine TE_l rfl rfl trivial rfl (RD.load (i := 0) Tryz.isAgg32 rfl rfl rfl) rfl ?_
      refine TE_q rfl rfl (RD.sliceR (l := 64) (h := ll9.length) Tryz.runUnderlying32 Tryz.sizeOf5 rfl hb9 ⟨_, rfl⟩ rfl (by omega) (Nat.le_refl _)) rfl ?_
      refine TE_q rfl rfl (RD.nilCheckP rfl) rfl ?_
      refine TE_q rfl rfl (RD.fieldAddr (o := 9) Tryz.runUnderlying109 rfl rfl Tryz.sizeOf32 rfl) rfl ?_
      refine TE_storeC 0 #[.bool bg, .int .u32 (((s8f (shaMix ss (ll9.take 64))) 0).toNat : Int), .int .u32 (((s8f (shaMix ss (ll9.take 64))) 1).toNat : Int), .int .u32 (((s8f (shaMix ss (ll9.take 64))) 2).toNat : Int), .int .u32 (((s8f (shaMix ss (ll9.take 64))) 3).toNat : Int), .int .u32 (((s8f (shaMix ss (ll9.take 64))) 4).toNat : Int), .int .u32 (((s8f (shaMix ss (ll9.take 64))) 5).toNat : Int), .int .u32 (((s8f (shaMix ss (ll9.take 64))) 6).toNat : Int), .int .u32 (((s8f (shaMix ss (ll9.take 64))) 7).toNat : Int), lv9, .int .i64 ((many : Int) + (bb.length : Int))] #[.bool bg, .int .u32 (((s8f (shaMix ss (ll9.take 64))) 0).toNat : Int), .int .u32 (((s8f (shaMix ss (ll9.take 64))) 1).toNat : Int), .int .u32 (((s8f (shaMix ss (ll9.take 64))) 2).toNat : Int), .int .u32 (((s8f (shaMix ss (ll9.take 64))) 3).toNat : Int), .int .u32 (((s8f (shaMix ss (ll9.take 64))) 4).toNat : Int), .int .u32 (((s8f (shaMix ss (ll9.take 64))) 5).toNat : Int), .int .u32 (((s8f (shaMix ss (ll9.take 64))) 6).toNat : Int), .int .u32 (((s8f (shaMix ss (ll9.take 64))) 7).toNat : Int), subV 64 ll9.length lv9, .int .i64 ((many : Int) + (bb.length : Int))] ((r, .cells #[.bool bg, .int .u32 (((s8f (shaMix ss (ll9.take 64))) 0).toNat : Int), .int .u32 (((s8f (shaMix ss (ll9.take 64))) 1).toNat : Int), .int .u32 (((s8f (shaMix ss (ll9.take 64))) 2).toNat : Int), .int .u32 (((s8f (shaMix ss (ll9.take 64))) 3).toNat : Int), .int .u32 (((s8f (shaMix ss (ll9.take 64))) 4).toNat : Int), .int .u32 (((s8f (shaMix ss (ll9.take 64))) 5).toNat : Int), .int .u32 (((s8f (shaMix ss (ll9.take 64))) 6).toNat : Int), .int .u32 (((s8f (shaMix ss (ll9.take 64))) 7).toNat : Int), subV 64 ll9.length lv9, .int .i64 ((many : Int) + (bb.length : Int))] 109 (0, 0)) :: (b5, .cells (bfV 64 (gtf (ll9.take 64))).cells 172 (0, 0)) :: (0, .cells (wfV 8 (s8f s00)).cells 107 (0, 0)) :: (1, .cells (wfV 64 (gtf shaK)).cells 217 (0, 0)) :: (HN14 ++ (HL ++ HX))) rfl Tryz.sizeOf32 trivial rfl rfl (by rcases (hb9.sub (l := 64) (r := ll9.length) (by omega) (Nat.le_refl _)) with ⟨h, _⟩ | ⟨_, _, _, h, _⟩ <;> rw [h] <;> rfl) (by rcases (hb9.sub (l := 64) (r := ll9.length) (by omega) (Nat.le_refl _)) with ⟨h, _⟩ | ⟨_, _, _, h, _⟩ <;> rw [h] <;> rfl) rfl rfl rfl rfl (.inr (by simp [keys])) ?_
      refine TE_nil0 ?_
      exact pn_againS ((shaMix ss (ll9.take 64)), subV 64 ll9.length lv9, ((ll9.take ll9.length).drop 64)) ⟨((hb9.sub (l := 64) (r := ll9.length) (by omega) (Nat.le_refl _))), (by dsimp only; rw [List.take_length, ← shaAll_go (l := ll9) (by omega)]; exact hs9), (by dsimp only; rw [List.take_length, shaLeft_go (by omega)]; exact hl9), (by simp; omega)⟩ (by simp; omega) ⟨rfl, trivial⟩ (fun a => by simp -failIfUnchanged <;> omega)
    · refine pn_exit ?_
      refine pn_seq ?_
      refine pn_plain [] rfl ?_
      refine TE_q rfl rfl (RD.move rfl) rfl ?_
      refine TE_q rfl rfl (RD.assign rfl) rfl ?_
      refine TE_nil0 ?_
      refine pn_ret ?_
      have h64 : ¬ 64 ≤ ll9.length := (by omega)
      rw [shaAll_end h64] at hs9
      rw [shaLeft_end h64] at hl9
      exact pn_doneS ((r, .cells #[.bool bg, .int .u32 (((s8f ss) 0).toNat : Int), .int .u32 (((s8f ss) 1).toNat : Int), .int .u32 (((s8f ss) 2).toNat : Int), .int .u32 (((s8f ss) 3).toNat : Int), .int .u32 (((s8f ss) 4).toNat : Int), .int .u32 (((s8f ss) 5).toNat : Int), .int .u32 (((s8f ss) 6).toNat : Int), .int .u32 (((s8f ss) 7).toNat : Int), lv9, .int .i64 ((many : Int) + (bb.length : Int))] 109 (0, 0)) :: (HN14 ++ HL)) rfl rfl ⟨lv9, HN14, (by rw [← hl9]; exact hb9), rfl, (by rw [← hs9, hc1])⟩ (fun a => by simp -failIfUnchanged <;> omega) (ownC (.inr (by simp [keys])) (ownA hX16 (fun e he => .inr (List.mem_cons_of_mem _ (List.mem_map_of_mem he)))))

end Go.Proofs.YtloljpefdecmhaaGreatDoor
