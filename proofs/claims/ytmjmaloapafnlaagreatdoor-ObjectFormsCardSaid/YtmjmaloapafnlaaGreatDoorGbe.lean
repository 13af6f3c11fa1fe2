import Derived.Test.YtmjmaloapafnlaaGreatDoorGbd
namespace Go.Proofs.YtmjmaloapafnlaaGreatDoor
open Tryz
open Go Go.Mv
set_option maxRecDepth 8000
theorem c_r01Num (n : Nat) (w : World) (hn : n ≤ 1000000) (hH : Hp [] w) : Calls Tryz.prog 134 #[.int .u64 (n : Int)] w (Ret w [] fun v H1 => ∃ st, BldOk 1 (byteC) (lebL n) st ∧ v = bldVx (lebL n) st ∧ H1 = bldMx 5 (byteC) (lebL n) st) := by
 refine fn_enter (args := [_]) func134 rfl ntmps134 rfl hH (sq (pl (qa rfl (n0 (sq (pl (qa rfl (n0 (sq ?_)))))))))
 refine pn_block (lpS (σ := Nat × (List UInt8) × SnkS) (fun q => [(0, .int .u64 (q.1 : Int)), (3, bldVx q.2.1 q.2.2)]) (fun q => (bldMx 5 byteC q.2.1 q.2.2)) (fun q => (q.1 ≤ 1000000) ∧ (lebL n = q.2.1 ++ lebL q.1) ∧ (BldOk 1 byteC q.2.1 q.2.2) ∧ (∀ e ∈ bldMx 5 byteC q.2.1 q.2.2, w.heap.size ≤ e.1 ∨ e.1 ∈ [])) (fun q => q.1) (n, [], none) ⟨(by omega), rfl, BldOk.nil, (by intro e he; cases he)⟩ ⟨rfl, rfl, trivial⟩ ?_)
 rintro ⟨m, pre, st3⟩ ⟨hm, hp, hbost3, hXst3⟩
 dsimp only at hm hp hbost3 hXst3 ⊢
 have hRst3 := hbost3.rdx (u := 5) byteC_len
 have hpl := congrArg List.length hp
 rw [List.length_append] at hpl
 have q1 := lebL_len64 (n := n) (by omega)
 refine sq (sq (pl (qm rfl (qq rfl (RD.geq rfl rfl) (n0 (pn_condD rfl (fun hc1 => ?_) (fun hc1 => ?_)))))))
 ·refine sk (pn_block (sq (pn_plain [4] rfl (qm rfl (qm rfl (qq rfl (RD.as (v := .int .u64 ((m % 128 : Nat) : Int)) (RD.rem rfl rfl (by decide)) (congrArg (Value.int .u64) (by rw [show ((m : Int) : Int) = ((m : Nat) : Int) from by omega]; exact tmod_nat _ _))) (qq rfl (RD.as (v := .int .u64 ((m % 128 + 128 : Nat) : Int)) (RD.add rfl rfl) (congrArg (Value.int .u64) (by rw [u64_wrap]; omega))) (qq rfl (RD.as (v := .int .u8 ((UInt8.ofNat (m % 128 + 128)).toNat : Int)) (RD.conv runUnderlying120 runUnderlying5 rfl) (nar_u8 _)) (TE_buildSlice (cells := #[.int .u8 ((UInt8.ofNat (m % 128 + 128)).toNat : Int)]) rfl runUnderlying32 sizeOf5 zeroValue5 rfl rfl rfl (by kernel_rfl) trivial rfl fun b11 hb11 => ?_)))))))))
  refine tsp ((bldMx 5 (byteC) pre st3) ++ [(b11, .cells #[.int .u8 ((UInt8.ofNat (m % 128 + 128)).toNat : Int)] 5 (0, 0))]) (TE_appendX (st := st3) (l := pre) (ys := [(UInt8.ofNat (m % 128 + 128))]) [(b11, .cells #[.int .u8 ((UInt8.ofNat (m % 128 + 128)).toNat : Int)] 5 (0, 0))] byteC_len byteC_one rfl rfl rfl rfl trivial rfl underlying32 elByteR rfl rfl rfl hbost3 (Rdx.of_b (Rdb.of_x (Rdx.blk (enc := byteC) (H := [(b11, .cells #[.int .u8 ((UInt8.ofNat (m % 128 + 128)).toNat : Int)] 5 (0, 0))]) (xs := [(UInt8.ofNat (m % 128 + 128))]) (n := 1) (i := 0) (tl := []) (c := 1) byteC_len rfl rfl (Nat.le_refl _)))) sb (by simp; omega) rfl hXst3 ?_)
  intro st2 hbo3 hX4 _
  have hR6 := hbo3.rdx (u := 5) byteC_len
  refine tsp ((b11, .cells #[.int .u8 ((UInt8.ofNat (m % 128 + 128)).toNat : Int)] 5 (0, 0)) :: (bldMx 5 (byteC) (pre ++ [(UInt8.ofNat (m % 128 + 128))]) st2)) (qa rfl (n0 (plG [] (bldMx 5 byteC (pre ++ [(UInt8.ofNat (m % 128 + 128))]) st2) (qm rfl (qq rfl (RD.as (v := .int .u64 ((m / 128 : Nat) : Int)) (RD.quo rfl rfl (by decide)) (congrArg (Value.int .u64) (by rw [u64_wrap, Int.tdiv_eq_ediv_of_nonneg (by omega)]; omega))) (qa rfl (n0 ?_)))))))
  have he7 : ((m / 128 : Nat) : Int) = ((m / 128) : Int) := (by simp)
  exact agS ((m / 128), (pre ++ [(UInt8.ofNat (m % 128 + 128))]), st2) ⟨(by omega), (by rw [hp, lebL_big (n := m) (by omega), List.append_assoc]; rfl), hbo3, hX4⟩ (by dsimp only; omega) ⟨(congrArg (fun z => some (Value.int .u64 z)) he7), rfl, trivial⟩
 ·refine xt (sq (pn_plain [2] rfl (qm rfl (qm rfl (qq rfl (RD.as (v := .int .u8 ((UInt8.ofNat m).toNat : Int)) (RD.conv runUnderlying120 runUnderlying5 rfl) (nar_u8 _)) (TE_buildSlice (cells := #[.int .u8 ((UInt8.ofNat m).toNat : Int)]) rfl runUnderlying32 sizeOf5 zeroValue5 rfl rfl rfl (by kernel_rfl) trivial rfl fun b18 hb18 => (tsp ((bldMx 5 (byteC) pre st3) ++ [(b18, .cells #[.int .u8 ((UInt8.ofNat m).toNat : Int)] 5 (0, 0))]) (TE_appendX (st := st3) (l := pre) (ys := [(UInt8.ofNat m)]) [(b18, .cells #[.int .u8 ((UInt8.ofNat m).toNat : Int)] 5 (0, 0))] byteC_len byteC_one rfl rfl rfl rfl trivial rfl underlying32 elByteR rfl rfl rfl hbost3 (Rdx.of_b (Rdb.of_x (Rdx.blk (enc := byteC) (H := [(b18, .cells #[.int .u8 ((UInt8.ofNat m).toNat : Int)] 5 (0, 0))]) (xs := [(UInt8.ofNat m)]) (n := 1) (i := 0) (tl := []) (c := 1) byteC_len rfl rfl (Nat.le_refl _)))) sb (by simp; omega) rfl hXst3 ?_))))))))
  intro st8 hbo9 hX10 _
  have hR12 := hbo9.rdx (u := 5) byteC_len
  refine tsp ((b18, .cells #[.int .u8 ((UInt8.ofNat m).toNat : Int)] 5 (0, 0)) :: (bldMx 5 (byteC) (pre ++ [(UInt8.ofNat m)]) st8)) (qa rfl (n0 (rt ?_)))
  have he13 : (pre ++ [(UInt8.ofNat m)]) = (lebL n) := (by rw [hp, lebL_small (n := m) (by omega)])
  exact dS (bldMx 5 byteC (pre ++ [(UInt8.ofNat m)]) st8) rfl rfl ⟨st8, (by rw [← he13]; exact hbo9), (by rw [← he13]; rfl), (by rw [← he13])⟩ hX10
theorem c_r01Bytes (lv : Value) (l : List UInt8) (HX : Mem) (w : World) (hbl : Rdb HX lv l) (hll : l.length ≤ 1000000) (hH : Hp HX w) : Calls Tryz.prog 133 #[lv] w (Ret w [] fun v H1 => ∃ st, BldOk 1 (byteC) (lebL l.length ++ l) st ∧ v = bldVx (lebL l.length ++ l) st ∧ H1 = bldMx 5 (byteC) (lebL l.length ++ l) st) := by
 have q1 := lebL_len64 (n := l.length) (by omega)
 refine fn_enter (args := [_]) func133 rfl ntmps133 rfl hH (sq (pl (qa rfl (n0 (sq (pn_plain [1, 2] rfl (qm rfl (qq rfl (RD.lenR runUnderlying32 rfl hbl) (qq rfl (RD.as (v := .int .u64 ((l.length : Nat) : Int)) (RD.conv runUnderlying3 runUnderlying120 rfl) (u64_of (by omega) (by omega))) ?_)))))))))
 refine cG rfl call134 (fun w hw => c_r01Num l.length w hll hw.s) ?_
 rintro v5 H6 ⟨st1, hbo2, rfl, rfl⟩ hX3
 have hRD4 := hbo2.rdx (u := 5) byteC_len
 refine tsp ((bldMx 5 (byteC) (lebL l.length) st1) ++ HX) (qm rfl (tsp ((bldMx 5 (byteC) (lebL l.length) st1) ++ HX) (TE_appendX (st := st1) (l := (lebL l.length)) (ys := l) HX byteC_len byteC_one rfl rfl rfl rfl trivial rfl underlying32 elByteR rfl rfl rfl hbo2 (Rdx.of_b hbl) sb (by omega) rfl (ownN hX3) ?_)))
 intro st7 hbo8 hX9 _
 have hR11 := hbo8.rdx (u := 5) byteC_len
 exact tsp ((bldMx 5 (byteC) ((lebL l.length) ++ l) st7) ++ HX) (qa rfl (n0 (rt (dS (bldMx 5 byteC ((lebL l.length) ++ l) st7) rfl rfl ⟨st7, hbo8, rfl, rfl⟩ hX9))))
end Go.Proofs.YtmjmaloapafnlaaGreatDoor
