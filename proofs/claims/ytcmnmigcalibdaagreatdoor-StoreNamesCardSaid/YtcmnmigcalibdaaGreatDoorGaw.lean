import Derived.Test.YtcmnmigcalibdaaGreatDoorGav
namespace Go.Proofs.YtcmnmigcalibdaaGreatDoor
open Go.Proofs.Tryz
open Go Go.Mv
set_option maxRecDepth 8000
/-- Putting one after the other. -/
def puts8 (m : St8) (bs : List (List UInt8)) : St8 := bs.foldl (fun m b => (put8 m b).1) m
theorem puts8_next {m : St8} {l : List BSl} {i : Nat} (hi : i < l.length) : puts8 m ((l.take (i + 1)).map (·.b)) = (put8 (puts8 m ((l.take i).map (·.b))) (gt l i).b).1 := by
  rw [take_succ_of (gt_some hi), List.map_append, puts8, List.foldl_append]; rfl
theorem put8_len {m : St8} {b : List UInt8} : (put8 m b).1.l.length ≤ m.l.length + 1 := by
  unfold put8
  repeat' split
  all_goals first | exact Nat.le_succ _ | skip
  show (mput (k8 b) (x8 b) m.l m.c).1.length ≤ _
  rw [mput_len]; split <;> omega
theorem c_alive8  (w : World) (hH : Hp [(0, .cells (wfV 8 (s8f shaB)).cells 151 (0, 0)), (1, .cells (wfV 64 (gtf shaK)).cells 286 (0, 0))] w) : Calls Tryz.prog 15 #[] w (Ret w [] fun v H1 => v = .bool true ∧ H1 = []) := by
 refine fn_enter (args := []) func15 rfl ntmps15 rfl hH (sq (pl (qa rfl (n0 (sq (pl (cG rfl call19 (fun w hw => c_stNew 5 w  hw.s) ?_)))))))
 rintro v7 H8 (⟨hq1, rfl, rfl⟩ | ⟨hq2, s3, mb4, rfl, rfl⟩) hX9
 ·exfalso; omega
 ·have hst6 : StOk (⟨5, 0, [], 0⟩ : St8) := st0_ok hq2; refine TE_sp [(s3, .cells #[.int .i64 ((⟨5, 0, [], 0⟩ : St8).q), .int .i64 ((⟨5, 0, [], 0⟩ : St8).sz), .map (some mb4)] 69 (0, 0)), (mb4, mapO keyV en8V ((⟨5, 0, [], 0⟩ : St8).l) ((⟨5, 0, [], 0⟩ : St8).c)), (0, .cells (wfV 8 (s8f shaB)).cells 151 (0, 0)), (1, .cells (wfV 64 (gtf shaK)).cells 286 (0, 0))] (fun a => by simp -failIfUnchanged <;> omega) ?_
  refine qm rfl (qe rfl (qe rfl (qa rfl (qa rfl (n0 (sq (pl (TE_buildSlice (cells := #[.int .u8 1, .int .u8 2, .int .u8 97, .int .u8 98]) rfl runUnderlying32 sizeOf5 zeroValue5 rfl rfl rfl (by kernel_rfl) trivial rfl fun b14 hb14 => (qa rfl ?_)))))))))
  refine n0 (sq (pl (qm rfl (qm rfl (cM [(s3, .cells #[.int .i64 ((⟨5, 0, [], 0⟩ : St8).q), .int .i64 ((⟨5, 0, [], 0⟩ : St8).sz), .map (some mb4)] 69 (0, 0)), (mb4, mapO keyV en8V ((⟨5, 0, [], 0⟩ : St8).l) ((⟨5, 0, [], 0⟩ : St8).c))] [(b14, .cells #[.int .u8 1, .int .u8 2, .int .u8 97, .int .u8 98] 5 (0, 0)), (0, .cells (wfV 8 (s8f shaB)).cells 151 (0, 0)), (1, .cells (wfV 64 (gtf shaK)).cells 286 (0, 0))] rfl call21 (ownC (.inl (hX9 _ List.mem_cons_self)) (ownC (.inl (hX9 _ (List.mem_cons_of_mem _ List.mem_cons_self))) own0)) (fun w hw => c_stPut s3 mb4 (⟨5, 0, [], 0⟩ : St8) (.slice (some ⟨b14, 0, none⟩) 4 4) [1, 2, 97, 98] [(b14, .cells #[.int .u8 1, .int .u8 2, .int .u8 97, .int .u8 98] 5 (0, 0))] w hst6 ((Rdb.of_x (Rdx.blk (enc := byteC) (H := [(b14, .cells #[.int .u8 1, .int .u8 2, .int .u8 97, .int .u8 98] 5 (0, 0))]) (xs := [1, 2, 97, 98]) (n := 4) (i := 0) (tl := []) (c := 4) byteC_len rfl rfl (Nat.le_refl _))).mono sb) (by first | (simp; done) | decide | (have h8 := put8_len (m := (put8 ⟨5, 0, [], 0⟩ [1, 2, 97, 98]).1) (b := [1, 2, 97, 98]); have h9 := put8_len (m := ⟨5, 0, [], 0⟩) (b := [1, 2, 97, 98]); have h7 : (⟨5, 0, [], 0⟩ : St8).l.length = 0 := rfl; omega)) hw.s) ?_)))))
  rintro v12 H13 ⟨rfl, rfl⟩ hX10
  have hst11 := put8_ok (b := [1, 2, 97, 98]) hst6 (by first | (simp; done) | decide | (have h8 := put8_len (m := (put8 ⟨5, 0, [], 0⟩ [1, 2, 97, 98]).1) (b := [1, 2, 97, 98]); have h9 := put8_len (m := ⟨5, 0, [], 0⟩) (b := [1, 2, 97, 98]); have h7 : (⟨5, 0, [], 0⟩ : St8).l.length = 0 := rfl; omega)) (by first | (simp; done) | decide | (have h8 := put8_len (m := (put8 ⟨5, 0, [], 0⟩ [1, 2, 97, 98]).1) (b := [1, 2, 97, 98]); have h9 := put8_len (m := ⟨5, 0, [], 0⟩) (b := [1, 2, 97, 98]); have h7 : (⟨5, 0, [], 0⟩ : St8).l.length = 0 := rfl; omega))
  refine tsp [(s3, .cells #[.int .i64 (((put8 (⟨5, 0, [], 0⟩ : St8) [1, 2, 97, 98]).1).q), .int .i64 (((put8 (⟨5, 0, [], 0⟩ : St8) [1, 2, 97, 98]).1).sz), .map (some mb4)] 69 (0, 0)), (mb4, mapO keyV en8V (((put8 (⟨5, 0, [], 0⟩ : St8) [1, 2, 97, 98]).1).l) (((put8 (⟨5, 0, [], 0⟩ : St8) [1, 2, 97, 98]).1).c)), (b14, .cells #[.int .u8 1, .int .u8 2, .int .u8 97, .int .u8 98] 5 (0, 0)), (0, .cells (wfV 8 (s8f shaB)).cells 151 (0, 0)), (1, .cells (wfV 64 (gtf shaK)).cells 286 (0, 0))] (qm rfl (qe rfl (qe rfl (TE_allocC (idV (fun _ => 0)).cells rfl zeroValue35 rfl trivial rfl fun b4 hb4 => (TE_putCW 0 _ _ [(b4, .cells (idV ((put8 (⟨5, 0, [], 0⟩ : St8) [1, 2, 97, 98]).2.1)).cells 35 (0, 0)), (s3, .cells #[.int .i64 (((put8 (⟨5, 0, [], 0⟩ : St8) [1, 2, 97, 98]).1).q), .int .i64 (((put8 (⟨5, 0, [], 0⟩ : St8) [1, 2, 97, 98]).1).sz), .map (some mb4)] 69 (0, 0)), (mb4, mapO keyV en8V (((put8 (⟨5, 0, [], 0⟩ : St8) [1, 2, 97, 98]).1).l) (((put8 (⟨5, 0, [], 0⟩ : St8) [1, 2, 97, 98]).1).c)), (b14, .cells #[.int .u8 1, .int .u8 2, .int .u8 97, .int .u8 98] 5 (0, 0)), (0, .cells (wfV 8 (s8f shaB)).cells 151 (0, 0)), (1, .cells (wfV 64 (gtf shaK)).cells 286 (0, 0))] rfl sizeOf35 trivial rfl rfl rfl rfl rfl rfl rfl rfl (.inl hb4) (qa rfl (n0 (sq (pl ?_)))))))))
  refine qm rfl (qm rfl (cM [(s3, .cells #[.int .i64 (((put8 (⟨5, 0, [], 0⟩ : St8) [1, 2, 97, 98]).1).q), .int .i64 (((put8 (⟨5, 0, [], 0⟩ : St8) [1, 2, 97, 98]).1).sz), .map (some mb4)] 69 (0, 0)), (mb4, mapO keyV en8V (((put8 (⟨5, 0, [], 0⟩ : St8) [1, 2, 97, 98]).1).l) (((put8 (⟨5, 0, [], 0⟩ : St8) [1, 2, 97, 98]).1).c))] [(b4, .cells (idV ((put8 (⟨5, 0, [], 0⟩ : St8) [1, 2, 97, 98]).2.1)).cells 35 (0, 0)), (b14, .cells #[.int .u8 1, .int .u8 2, .int .u8 97, .int .u8 98] 5 (0, 0)), (0, .cells (wfV 8 (s8f shaB)).cells 151 (0, 0)), (1, .cells (wfV 64 (gtf shaK)).cells 286 (0, 0))] rfl call21 (ownC (hX10 _ List.mem_cons_self) (ownC (hX10 _ (List.mem_cons_of_mem _ List.mem_cons_self)) own0)) (fun w hw => c_stPut s3 mb4 ((put8 (⟨5, 0, [], 0⟩ : St8) [1, 2, 97, 98]).1) (.slice (some ⟨b14, 0, none⟩) 4 4) [1, 2, 97, 98] [(b14, .cells #[.int .u8 1, .int .u8 2, .int .u8 97, .int .u8 98] 5 (0, 0))] w hst11 ((Rdb.of_x (Rdx.blk (enc := byteC) (H := [(b14, .cells #[.int .u8 1, .int .u8 2, .int .u8 97, .int .u8 98] 5 (0, 0))]) (xs := [1, 2, 97, 98]) (n := 4) (i := 0) (tl := []) (c := 4) byteC_len rfl rfl (Nat.le_refl _))).mono sb) (by first | (simp; done) | decide | (have h8 := put8_len (m := (put8 ⟨5, 0, [], 0⟩ [1, 2, 97, 98]).1) (b := [1, 2, 97, 98]); have h9 := put8_len (m := ⟨5, 0, [], 0⟩) (b := [1, 2, 97, 98]); have h7 : (⟨5, 0, [], 0⟩ : St8).l.length = 0 := rfl; omega)) hw.s) ?_))
  rintro v16 H17 ⟨rfl, rfl⟩ hX14
  have hst15 := put8_ok (b := [1, 2, 97, 98]) hst11 (by first | (simp; done) | decide | (have h8 := put8_len (m := (put8 ⟨5, 0, [], 0⟩ [1, 2, 97, 98]).1) (b := [1, 2, 97, 98]); have h9 := put8_len (m := ⟨5, 0, [], 0⟩) (b := [1, 2, 97, 98]); have h7 : (⟨5, 0, [], 0⟩ : St8).l.length = 0 := rfl; omega)) (by first | (simp; done) | decide | (have h8 := put8_len (m := (put8 ⟨5, 0, [], 0⟩ [1, 2, 97, 98]).1) (b := [1, 2, 97, 98]); have h9 := put8_len (m := ⟨5, 0, [], 0⟩) (b := [1, 2, 97, 98]); have h7 : (⟨5, 0, [], 0⟩ : St8).l.length = 0 := rfl; omega))
  refine tsp [(s3, .cells #[.int .i64 (((put8 ((put8 (⟨5, 0, [], 0⟩ : St8) [1, 2, 97, 98]).1) [1, 2, 97, 98]).1).q), .int .i64 (((put8 ((put8 (⟨5, 0, [], 0⟩ : St8) [1, 2, 97, 98]).1) [1, 2, 97, 98]).1).sz), .map (some mb4)] 69 (0, 0)), (mb4, mapO keyV en8V (((put8 ((put8 (⟨5, 0, [], 0⟩ : St8) [1, 2, 97, 98]).1) [1, 2, 97, 98]).1).l) (((put8 ((put8 (⟨5, 0, [], 0⟩ : St8) [1, 2, 97, 98]).1) [1, 2, 97, 98]).1).c)), (b4, .cells (idV ((put8 (⟨5, 0, [], 0⟩ : St8) [1, 2, 97, 98]).2.1)).cells 35 (0, 0)), (b14, .cells #[.int .u8 1, .int .u8 2, .int .u8 97, .int .u8 98] 5 (0, 0)), (0, .cells (wfV 8 (s8f shaB)).cells 151 (0, 0)), (1, .cells (wfV 64 (gtf shaK)).cells 286 (0, 0))] (qm rfl (qe rfl (qe rfl (TE_allocC (idV (fun _ => 0)).cells rfl zeroValue35 rfl trivial rfl fun b6 hb6 => (TE_putCW 0 _ _ [(b6, .cells (idV ((put8 ((put8 (⟨5, 0, [], 0⟩ : St8) [1, 2, 97, 98]).1) [1, 2, 97, 98]).2.1)).cells 35 (0, 0)), (s3, .cells #[.int .i64 (((put8 ((put8 (⟨5, 0, [], 0⟩ : St8) [1, 2, 97, 98]).1) [1, 2, 97, 98]).1).q), .int .i64 (((put8 ((put8 (⟨5, 0, [], 0⟩ : St8) [1, 2, 97, 98]).1) [1, 2, 97, 98]).1).sz), .map (some mb4)] 69 (0, 0)), (mb4, mapO keyV en8V (((put8 ((put8 (⟨5, 0, [], 0⟩ : St8) [1, 2, 97, 98]).1) [1, 2, 97, 98]).1).l) (((put8 ((put8 (⟨5, 0, [], 0⟩ : St8) [1, 2, 97, 98]).1) [1, 2, 97, 98]).1).c)), (b4, .cells (idV ((put8 (⟨5, 0, [], 0⟩ : St8) [1, 2, 97, 98]).2.1)).cells 35 (0, 0)), (b14, .cells #[.int .u8 1, .int .u8 2, .int .u8 97, .int .u8 98] 5 (0, 0)), (0, .cells (wfV 8 (s8f shaB)).cells 151 (0, 0)), (1, .cells (wfV 64 (gtf shaK)).cells 286 (0, 0))] rfl sizeOf35 trivial rfl rfl rfl rfl rfl rfl rfl rfl (.inl hb6) (qa rfl (n0 (sq (pl ?_)))))))))
  refine qm rfl (TE_buildSlice (cells := #[.int .u8 1, .int .u8 0]) rfl runUnderlying32 sizeOf5 zeroValue5 rfl rfl rfl (by kernel_rfl) trivial rfl fun b29 hb29 => (cM [(s3, .cells #[.int .i64 (((put8 ((put8 (⟨5, 0, [], 0⟩ : St8) [1, 2, 97, 98]).1) [1, 2, 97, 98]).1).q), .int .i64 (((put8 ((put8 (⟨5, 0, [], 0⟩ : St8) [1, 2, 97, 98]).1) [1, 2, 97, 98]).1).sz), .map (some mb4)] 69 (0, 0)), (mb4, mapO keyV en8V (((put8 ((put8 (⟨5, 0, [], 0⟩ : St8) [1, 2, 97, 98]).1) [1, 2, 97, 98]).1).l) (((put8 ((put8 (⟨5, 0, [], 0⟩ : St8) [1, 2, 97, 98]).1) [1, 2, 97, 98]).1).c))] [(b29, .cells #[.int .u8 1, .int .u8 0] 5 (0, 0)), (b6, .cells (idV ((put8 ((put8 (⟨5, 0, [], 0⟩ : St8) [1, 2, 97, 98]).1) [1, 2, 97, 98]).2.1)).cells 35 (0, 0)), (b4, .cells (idV ((put8 (⟨5, 0, [], 0⟩ : St8) [1, 2, 97, 98]).2.1)).cells 35 (0, 0)), (b14, .cells #[.int .u8 1, .int .u8 2, .int .u8 97, .int .u8 98] 5 (0, 0)), (0, .cells (wfV 8 (s8f shaB)).cells 151 (0, 0)), (1, .cells (wfV 64 (gtf shaK)).cells 286 (0, 0))] rfl call21 (ownC (hX14 _ List.mem_cons_self) (ownC (hX14 _ (List.mem_cons_of_mem _ List.mem_cons_self)) own0)) (fun w hw => c_stPut s3 mb4 ((put8 ((put8 (⟨5, 0, [], 0⟩ : St8) [1, 2, 97, 98]).1) [1, 2, 97, 98]).1) (.slice (some ⟨b29, 0, none⟩) 2 2) [1, 0] [(b29, .cells #[.int .u8 1, .int .u8 0] 5 (0, 0))] w hst15 ((Rdb.of_x (Rdx.blk (enc := byteC) (H := [(b29, .cells #[.int .u8 1, .int .u8 0] 5 (0, 0))]) (xs := [1, 0]) (n := 2) (i := 0) (tl := []) (c := 2) byteC_len rfl rfl (Nat.le_refl _))).mono sb) (by first | (simp; done) | decide | (have h8 := put8_len (m := (put8 ⟨5, 0, [], 0⟩ [1, 2, 97, 98]).1) (b := [1, 2, 97, 98]); have h9 := put8_len (m := ⟨5, 0, [], 0⟩) (b := [1, 2, 97, 98]); have h7 : (⟨5, 0, [], 0⟩ : St8).l.length = 0 := rfl; omega)) hw.s) ?_))
  rintro v20 H21 ⟨rfl, rfl⟩ hX18
  have hst19 := put8_ok (b := [1, 0]) hst15 (by first | (simp; done) | decide | (have h8 := put8_len (m := (put8 ⟨5, 0, [], 0⟩ [1, 2, 97, 98]).1) (b := [1, 2, 97, 98]); have h9 := put8_len (m := ⟨5, 0, [], 0⟩) (b := [1, 2, 97, 98]); have h7 : (⟨5, 0, [], 0⟩ : St8).l.length = 0 := rfl; omega)) (by first | (simp; done) | decide | (have h8 := put8_len (m := (put8 ⟨5, 0, [], 0⟩ [1, 2, 97, 98]).1) (b := [1, 2, 97, 98]); have h9 := put8_len (m := ⟨5, 0, [], 0⟩) (b := [1, 2, 97, 98]); have h7 : (⟨5, 0, [], 0⟩ : St8).l.length = 0 := rfl; omega))
  refine tsp [(s3, .cells #[.int .i64 (((put8 ((put8 ((put8 (⟨5, 0, [], 0⟩ : St8) [1, 2, 97, 98]).1) [1, 2, 97, 98]).1) [1, 0]).1).q), .int .i64 (((put8 ((put8 ((put8 (⟨5, 0, [], 0⟩ : St8) [1, 2, 97, 98]).1) [1, 2, 97, 98]).1) [1, 0]).1).sz), .map (some mb4)] 69 (0, 0)), (mb4, mapO keyV en8V (((put8 ((put8 ((put8 (⟨5, 0, [], 0⟩ : St8) [1, 2, 97, 98]).1) [1, 2, 97, 98]).1) [1, 0]).1).l) (((put8 ((put8 ((put8 (⟨5, 0, [], 0⟩ : St8) [1, 2, 97, 98]).1) [1, 2, 97, 98]).1) [1, 0]).1).c)), (b29, .cells #[.int .u8 1, .int .u8 0] 5 (0, 0)), (b6, .cells (idV ((put8 ((put8 (⟨5, 0, [], 0⟩ : St8) [1, 2, 97, 98]).1) [1, 2, 97, 98]).2.1)).cells 35 (0, 0)), (b4, .cells (idV ((put8 (⟨5, 0, [], 0⟩ : St8) [1, 2, 97, 98]).2.1)).cells 35 (0, 0)), (b14, .cells #[.int .u8 1, .int .u8 2, .int .u8 97, .int .u8 98] 5 (0, 0)), (0, .cells (wfV 8 (s8f shaB)).cells 151 (0, 0)), (1, .cells (wfV 64 (gtf shaK)).cells 286 (0, 0))] (qm rfl (qe rfl (qe rfl (TE_allocC (idV (fun _ => 0)).cells rfl zeroValue35 rfl trivial rfl fun b8 hb8 => (TE_putCW 0 _ _ [(b8, .cells (idV ((put8 ((put8 ((put8 (⟨5, 0, [], 0⟩ : St8) [1, 2, 97, 98]).1) [1, 2, 97, 98]).1) [1, 0]).2.1)).cells 35 (0, 0)), (s3, .cells #[.int .i64 (((put8 ((put8 ((put8 (⟨5, 0, [], 0⟩ : St8) [1, 2, 97, 98]).1) [1, 2, 97, 98]).1) [1, 0]).1).q), .int .i64 (((put8 ((put8 ((put8 (⟨5, 0, [], 0⟩ : St8) [1, 2, 97, 98]).1) [1, 2, 97, 98]).1) [1, 0]).1).sz), .map (some mb4)] 69 (0, 0)), (mb4, mapO keyV en8V (((put8 ((put8 ((put8 (⟨5, 0, [], 0⟩ : St8) [1, 2, 97, 98]).1) [1, 2, 97, 98]).1) [1, 0]).1).l) (((put8 ((put8 ((put8 (⟨5, 0, [], 0⟩ : St8) [1, 2, 97, 98]).1) [1, 2, 97, 98]).1) [1, 0]).1).c)), (b29, .cells #[.int .u8 1, .int .u8 0] 5 (0, 0)), (b6, .cells (idV ((put8 ((put8 (⟨5, 0, [], 0⟩ : St8) [1, 2, 97, 98]).1) [1, 2, 97, 98]).2.1)).cells 35 (0, 0)), (b4, .cells (idV ((put8 (⟨5, 0, [], 0⟩ : St8) [1, 2, 97, 98]).2.1)).cells 35 (0, 0)), (b14, .cells #[.int .u8 1, .int .u8 2, .int .u8 97, .int .u8 98] 5 (0, 0)), (0, .cells (wfV 8 (s8f shaB)).cells 151 (0, 0)), (1, .cells (wfV 64 (gtf shaK)).cells 286 (0, 0))] rfl sizeOf35 trivial rfl rfl rfl rfl rfl rfl rfl rfl (.inl hb8) (qa rfl (n0 (sq (dG [11, 18, 19] [] [(b8, .cells (idV ((put8 ((put8 ((put8 (⟨5, 0, [], 0⟩ : St8) [1, 2, 97, 98]).1) [1, 2, 97, 98]).1) [1, 0]).2.1)).cells 35 (0, 0)), (s3, .cells #[.int .i64 (((put8 ((put8 ((put8 (⟨5, 0, [], 0⟩ : St8) [1, 2, 97, 98]).1) [1, 2, 97, 98]).1) [1, 0]).1).q), .int .i64 (((put8 ((put8 ((put8 (⟨5, 0, [], 0⟩ : St8) [1, 2, 97, 98]).1) [1, 2, 97, 98]).1) [1, 0]).1).sz), .map (some mb4)] 69 (0, 0)), (mb4, mapO keyV en8V (((put8 ((put8 ((put8 (⟨5, 0, [], 0⟩ : St8) [1, 2, 97, 98]).1) [1, 2, 97, 98]).1) [1, 0]).1).l) (((put8 ((put8 ((put8 (⟨5, 0, [], 0⟩ : St8) [1, 2, 97, 98]).1) [1, 2, 97, 98]).1) [1, 0]).1).c)), (b29, .cells #[.int .u8 1, .int .u8 0] 5 (0, 0)), (b6, .cells (idV ((put8 ((put8 (⟨5, 0, [], 0⟩ : St8) [1, 2, 97, 98]).1) [1, 2, 97, 98]).2.1)).cells 35 (0, 0)), (b4, .cells (idV ((put8 (⟨5, 0, [], 0⟩ : St8) [1, 2, 97, 98]).2.1)).cells 35 (0, 0)), (b14, .cells #[.int .u8 1, .int .u8 2, .int .u8 97, .int .u8 98] 5 (0, 0)), (0, .cells (wfV 8 (s8f shaB)).cells 151 (0, 0)), (1, .cells (wfV 64 (gtf shaK)).cells 286 (0, 0))] ?_)))))))))
  refine qm rfl (qq rfl (RD.as (v := .bool true) (RD.eql rfl rfl) rfl) (qm rfl (qg rfl (TE_gq rfl rfl rfl rfl (RD.eql rfl rfl) rfl (qT rfl (qm rfl (TE_join (σ := Unit) (fun _ => [(0, .bool ((decide (((put8 (⟨5, 0, [], 0⟩ : St8) [1, 2, 97, 98]).2.2) = 0)) && ((decide (((put8 ((put8 (⟨5, 0, [], 0⟩ : St8) [1, 2, 97, 98]).1) [1, 2, 97, 98]).2.2) = 0)) && ((sameN 32 ((put8 (⟨5, 0, [], 0⟩ : St8) [1, 2, 97, 98]).2.1) (shaF [1, 2, 97, 98])) && ((sameN 32 ((put8 ((put8 (⟨5, 0, [], 0⟩ : St8) [1, 2, 97, 98]).1) [1, 2, 97, 98]).2.1) ((put8 (⟨5, 0, [], 0⟩ : St8) [1, 2, 97, 98]).2.1)) && ((decide (((put8 ((put8 ((put8 (⟨5, 0, [], 0⟩ : St8) [1, 2, 97, 98]).1) [1, 2, 97, 98]).1) [1, 0]).2.2) = 81)) && ((decide ((((put8 ((put8 ((put8 (⟨5, 0, [], 0⟩ : St8) [1, 2, 97, 98]).1) [1, 2, 97, 98]).1) [1, 0]).1).l.length : Int) = 1)) && ((decide ((((put8 ((put8 ((put8 (⟨5, 0, [], 0⟩ : St8) [1, 2, 97, 98]).1) [1, 2, 97, 98]).1) [1, 0]).1).sz) = 4)) && (decide ((((put8 ((put8 ((put8 (⟨5, 0, [], 0⟩ : St8) [1, 2, 97, 98]).1) [1, 2, 97, 98]).1) [1, 0]).1).q - ((put8 ((put8 ((put8 (⟨5, 0, [], 0⟩ : St8) [1, 2, 97, 98]).1) [1, 2, 97, 98]).1) [1, 0]).1).sz) = 1))))))))))]) (fun _ => [(b8, .cells (idV ((put8 ((put8 ((put8 (⟨5, 0, [], 0⟩ : St8) [1, 2, 97, 98]).1) [1, 2, 97, 98]).1) [1, 0]).2.1)).cells 35 (0, 0)), (s3, .cells #[.int .i64 (((put8 ((put8 ((put8 (⟨5, 0, [], 0⟩ : St8) [1, 2, 97, 98]).1) [1, 2, 97, 98]).1) [1, 0]).1).q), .int .i64 (((put8 ((put8 ((put8 (⟨5, 0, [], 0⟩ : St8) [1, 2, 97, 98]).1) [1, 2, 97, 98]).1) [1, 0]).1).sz), .map (some mb4)] 69 (0, 0)), (mb4, mapO keyV en8V (((put8 ((put8 ((put8 (⟨5, 0, [], 0⟩ : St8) [1, 2, 97, 98]).1) [1, 2, 97, 98]).1) [1, 0]).1).l) (((put8 ((put8 ((put8 (⟨5, 0, [], 0⟩ : St8) [1, 2, 97, 98]).1) [1, 2, 97, 98]).1) [1, 0]).1).c)), (b29, .cells #[.int .u8 1, .int .u8 0] 5 (0, 0)), (b6, .cells (idV ((put8 ((put8 (⟨5, 0, [], 0⟩ : St8) [1, 2, 97, 98]).1) [1, 2, 97, 98]).2.1)).cells 35 (0, 0)), (b4, .cells (idV ((put8 (⟨5, 0, [], 0⟩ : St8) [1, 2, 97, 98]).2.1)).cells 35 (0, 0)), (b14, .cells #[.int .u8 1, .int .u8 2, .int .u8 97, .int .u8 98] 5 (0, 0)), (0, .cells (wfV 8 (s8f shaB)).cells 151 (0, 0)), (1, .cells (wfV 64 (gtf shaK)).cells 286 (0, 0))]) (fun _ => True) ?_ ?_)))))))
  ·refine TE_dec (fun hf22 => ?_) (fun hf22 => ?_)
   ·refine qg rfl (TE_gq rfl rfl rfl rfl (RD.eql rfl rfl) rfl (qT rfl (qm rfl (TE_dec (fun hf23 => ?_) (fun hf23 => ?_)))))
    ·refine TE_gq rfl rfl rfl rfl (RD.loadA (i := 5) isAgg35 sizeOf35 rfl rfl (Nat.le_of_ble_eq_true rfl) (id_all _)) rfl (qg rfl (TE_buildSlice (cells := #[.slice (some ⟨b14, 0, none⟩) 4 4]) rfl runUnderlying24 sizeOf32 zeroValue32 rfl rfl rfl (by kernel_rfl) ⟨_, rfl, rfl⟩ rfl fun b46 hb46 => (cG rfl call32 (fun w hw => c_hashOf b46 (.slice (some ⟨b14, 0, none⟩) 4 4) [1, 2, 97, 98] [(b14, .cells #[.int .u8 1, .int .u8 2, .int .u8 97, .int .u8 98] 5 (0, 0))] w ((Rdb.of_x (Rdx.blk (enc := byteC) (H := [(b14, .cells #[.int .u8 1, .int .u8 2, .int .u8 97, .int .u8 98] 5 (0, 0))]) (xs := [1, 2, 97, 98]) (n := 4) (i := 0) (tl := []) (c := 4) byteC_len rfl rfl (Nat.le_refl _))).mono sb) (by first | (simp; done) | decide | (have h8 := put8_len (m := (put8 ⟨5, 0, [], 0⟩ [1, 2, 97, 98]).1) (b := [1, 2, 97, 98]); have h9 := put8_len (m := ⟨5, 0, [], 0⟩) (b := [1, 2, 97, 98]); have h7 : (⟨5, 0, [], 0⟩ : St8).l.length = 0 := rfl; omega)) hw.s) ?_)))
     rintro v24 H25 ⟨rfl, rfl⟩ -
     refine TE_gq rfl rfl rfl rfl (RD.eql_agg eqGuardType35 (eq_id ((put8 (⟨5, 0, [], 0⟩ : St8) [1, 2, 97, 98]).2.1) (shaF [1, 2, 97, 98])) rfl rfl) rfl (qT rfl (qm rfl (TE_bool (fun hf26 => ?_) (fun hf26 => ?_))))
     ·refine TE_gq rfl rfl rfl rfl (RD.loadA (i := 4) isAgg35 sizeOf35 rfl rfl (Nat.le_of_ble_eq_true rfl) (id_all _)) rfl (TE_gq rfl rfl rfl rfl (RD.loadA (i := 5) isAgg35 sizeOf35 rfl rfl (Nat.le_of_ble_eq_true rfl) (id_all _)) rfl (TE_gq rfl rfl rfl rfl (RD.eql_agg eqGuardType35 (eq_id ((put8 ((put8 (⟨5, 0, [], 0⟩ : St8) [1, 2, 97, 98]).1) [1, 2, 97, 98]).2.1) ((put8 (⟨5, 0, [], 0⟩ : St8) [1, 2, 97, 98]).2.1)) rfl rfl) rfl (qT rfl (qm rfl (TE_bool (fun hf27 => ?_) (fun hf27 => ?_))))))
      ·refine qg rfl (TE_gq rfl rfl rfl rfl (RD.eql rfl rfl) rfl (qT rfl (qm rfl (TE_dec (fun hf28 => ?_) (fun hf28 => ?_)))))
       ·refine qg rfl (cG rfl call29 (fun w hw => c_stLen s3 mb4 ((put8 ((put8 ((put8 (⟨5, 0, [], 0⟩ : St8) [1, 2, 97, 98]).1) [1, 2, 97, 98]).1) [1, 0]).1) w hst19 hw.s) ?_)
        rintro v29 H30 ⟨rfl, rfl⟩ -
        refine TE_gq rfl rfl rfl rfl (RD.eql rfl rfl) rfl (qT rfl (qm rfl (TE_dec (fun hf31 => ?_) (fun hf31 => ?_))))
        ·refine qg rfl (cG rfl call25 (fun w hw => c_stSize s3 mb4 ((put8 ((put8 ((put8 (⟨5, 0, [], 0⟩ : St8) [1, 2, 97, 98]).1) [1, 2, 97, 98]).1) [1, 0]).1) w hst19 hw.s) ?_)
         rintro v32 H33 ⟨rfl, rfl⟩ -
         refine TE_gq rfl rfl rfl rfl (RD.eql rfl rfl) rfl (qT rfl (qm rfl (TE_dec (fun hf34 => ?_) (fun hf34 => ?_))))
         ·refine qg rfl (cG rfl call30 (fun w hw => c_stLeft s3 mb4 ((put8 ((put8 ((put8 (⟨5, 0, [], 0⟩ : St8) [1, 2, 97, 98]).1) [1, 2, 97, 98]).1) [1, 0]).1) w hst19 hw.s) ?_)
          rintro v35 H36 ⟨rfl, rfl⟩ -
          exact TE_gq rfl rfl rfl rfl (RD.eql rfl rfl) rfl (qT rfl (qa rfl (TE_nil (pn_give () trivial ⟨congrArg (fun b => some (Value.bool b)) (by first | (simp [hf22, hf23, hf26, hf27, hf28, hf31, hf34]; done) | (simp only [decide_eq_true hf22, decide_eq_true hf23, hf26, hf27, decide_eq_true hf28, decide_eq_true hf31, decide_eq_true hf34]; rfl) | (simp only [decide_eq_true hf22, decide_eq_true hf23, hf26, hf27, decide_eq_true hf28, decide_eq_true hf31, decide_eq_true hf34]; simp; done)), trivial⟩ sb))))
         ·exact qs rfl (qs rfl (qs rfl (qF rfl (qa rfl (TE_nil (pn_give () trivial ⟨congrArg (fun b => some (Value.bool b)) (by first | (simp [hf22, hf23, hf26, hf27, hf28, hf31, hf34]; done) | (simp only [decide_eq_true hf22, decide_eq_true hf23, hf26, hf27, decide_eq_true hf28, decide_eq_true hf31, decide_eq_false hf34]; rfl) | (simp only [decide_eq_true hf22, decide_eq_true hf23, hf26, hf27, decide_eq_true hf28, decide_eq_true hf31, decide_eq_false hf34]; simp; done)), trivial⟩ sb))))))
        ·refine qs rfl (qs rfl (qs rfl (qF rfl (qm rfl (qs rfl (qs rfl (qs rfl (qF rfl (qa rfl ?_)))))))))
         exact TE_nil (pn_give () trivial ⟨congrArg (fun b => some (Value.bool b)) (by first | (simp [hf22, hf23, hf26, hf27, hf28, hf31]; done) | (simp only [decide_eq_true hf22, decide_eq_true hf23, hf26, hf27, decide_eq_true hf28, decide_eq_false hf31]; rfl) | (simp only [decide_eq_true hf22, decide_eq_true hf23, hf26, hf27, decide_eq_true hf28, decide_eq_false hf31]; simp; done)), trivial⟩ sb)
       ·refine qs rfl (qs rfl (qs rfl (qF rfl (qm rfl (qs rfl (qs rfl (qs rfl (qF rfl (qm rfl ?_)))))))))
        exact qs rfl (qs rfl (qs rfl (qF rfl (qa rfl (TE_nil (pn_give () trivial ⟨congrArg (fun b => some (Value.bool b)) (by first | (simp [hf22, hf23, hf26, hf27, hf28]; done) | (simp only [decide_eq_true hf22, decide_eq_true hf23, hf26, hf27, decide_eq_false hf28]; rfl) | (simp only [decide_eq_true hf22, decide_eq_true hf23, hf26, hf27, decide_eq_false hf28]; simp; done)), trivial⟩ sb))))))
      ·refine qs rfl (qs rfl (qF rfl (qm rfl (qs rfl (qs rfl (qs rfl (qF rfl (qm rfl (qs rfl ?_)))))))))
       refine qs rfl (qs rfl (qF rfl (qm rfl (qs rfl (qs rfl (qs rfl (qF rfl (qa rfl (TE_nil ?_)))))))))
       exact pn_give () trivial ⟨congrArg (fun b => some (Value.bool b)) (by first | (simp [hf22, hf23, hf26, hf27]; done) | (simp only [decide_eq_true hf22, decide_eq_true hf23, hf26, hf27]; rfl) | (simp only [decide_eq_true hf22, decide_eq_true hf23, hf26, hf27]; simp; done)), trivial⟩ sb
     ·refine qs rfl (qs rfl (qs rfl (qF rfl (qm rfl (qs rfl (qs rfl (qF rfl (qm rfl (qs rfl ?_)))))))))
      refine qs rfl (qs rfl (qF rfl (qm rfl (qs rfl (qs rfl (qs rfl (qF rfl (qm rfl (qs rfl ?_)))))))))
      exact qs rfl (qs rfl (qF rfl (qa rfl (TE_nil (pn_give () trivial ⟨congrArg (fun b => some (Value.bool b)) (by first | (simp [hf22, hf23, hf26]; done) | (simp only [decide_eq_true hf22, decide_eq_true hf23, hf26]; rfl) | (simp only [decide_eq_true hf22, decide_eq_true hf23, hf26]; simp; done)), trivial⟩ sb)))))
    ·refine qs rfl (qs rfl (qs rfl (qs rfl (qs rfl (qF rfl (qm rfl (qs rfl (qs rfl (qs rfl ?_)))))))))
     refine qF rfl (qm rfl (qs rfl (qs rfl (qF rfl (qm rfl (qs rfl (qs rfl (qs rfl (qF rfl ?_)))))))))
     refine qm rfl (qs rfl (qs rfl (qs rfl (qF rfl (qm rfl (qs rfl (qs rfl (qs rfl (qF rfl ?_)))))))))
     exact qa rfl (TE_nil (pn_give () trivial ⟨congrArg (fun b => some (Value.bool b)) (by first | (simp [hf22, hf23]; done) | (simp only [decide_eq_true hf22, decide_eq_false hf23]; rfl) | (simp only [decide_eq_true hf22, decide_eq_false hf23]; simp; done)), trivial⟩ sb))
   ·refine qs rfl (qs rfl (qF rfl (qm rfl (qs rfl (qs rfl (qs rfl (qs rfl (qs rfl (qF rfl ?_)))))))))
    refine qm rfl (qs rfl (qs rfl (qs rfl (qF rfl (qm rfl (qs rfl (qs rfl (qF rfl (qm rfl ?_)))))))))
    refine qs rfl (qs rfl (qs rfl (qF rfl (qm rfl (qs rfl (qs rfl (qs rfl (qF rfl (qm rfl ?_)))))))))
    exact qs rfl (qs rfl (qs rfl (qF rfl (qa rfl (TE_nil (pn_give () trivial ⟨congrArg (fun b => some (Value.bool b)) (by first | (simp [hf22]; done) | (simp only [decide_eq_false hf22]; rfl) | (simp only [decide_eq_false hf22]; simp; done)), trivial⟩ sb))))))
  rintro _ -
  exact rt (pn_doneS [] rfl rfl ⟨(congrArg Value.bool (by kernel_rfl)), rfl⟩ (fun _ => Nat.zero_le _) (fun _ he => nomatch he))
end Go.Proofs.YtcmnmigcalibdaaGreatDoor

namespace Go.Proofs.YtcmnmigcalibdaaGreatDoor
open Go.Proofs.Tryz
open Go Go.Mv
set_option maxRecDepth 8000
section
variable {κ β : Type} {l es : List (ME κ β)} {e : ME κ β}
theorem seen_sub (h : ∀ e ∈ es, e ∈ l) (he : e ∈ l) : ∀ x ∈ es ++ [e], x ∈ l := fun x hx => by
  rcases List.mem_append.1 hx with hx | hx
  · exact h x hx
  · simp only [List.mem_cons, List.not_mem_nil, or_false] at hx; subst hx; exact he
theorem seen_nd (h : (es.map (·.n)).Nodup) (hn : e.n ∉ (es.map (·.n)).toArray) : ((es ++ [e]).map (·.n)).Nodup := by
  rw [List.map_append, List.nodup_append]
  refine ⟨h, by simp, fun a ha b hb => ?_⟩
  simp only [List.map_cons, List.map_nil, List.mem_cons, List.not_mem_nil, or_false] at hb
  subst hb
  intro hab; subst hab
  exact hn (by simpa using ha)
theorem seen_lt (hs : ∀ e ∈ es, e ∈ l) (h : (es.map (·.n)).Nodup) (he : e ∈ l) (hn : e.n ∉ (es.map (·.n)).toArray) : es.length < l.length := by
  have h1 := nodup_le (seen_nd h hn) (l := l.map (·.n)) (fun x hx => by
    obtain ⟨y, hy, rfl⟩ := List.mem_map.1 hx
    exact List.mem_map.2 ⟨y, seen_sub hs he y hy, rfl⟩)
  simp only [List.length_map, List.length_append, List.length_cons, List.length_nil] at h1
  omega
theorem seen_le (hs : ∀ e ∈ es, e ∈ l) (h : (es.map (·.n)).Nodup) : es.length ≤ l.length := by
  have h1 := nodup_le h (l := l.map (·.n)) (fun x hx => by
    obtain ⟨y, hy, rfl⟩ := List.mem_map.1 hx
    exact List.mem_map.2 ⟨y, hs y hy, rfl⟩)
  simpa using h1
/-- All were seen. -/
theorem seen_all (hns : l.Pairwise fun a b => a.n ≠ b.n) (hs : ∀ e ∈ es, e ∈ l) (ha : ∀ e ∈ l, e.n ∈ (es.map (·.n)).toArray) : ∀ e, e ∈ es ↔ e ∈ l := fun e => by
  refine ⟨hs e, fun he => ?_⟩
  have h1 := ha e he
  simp only [List.mem_toArray, List.mem_map] at h1
  obtain ⟨y, hy, hyn⟩ := h1
  have hyl := hs y hy
  obtain ⟨i, hi⟩ := List.getElem?_of_mem he
  obtain ⟨j, hj⟩ := List.getElem?_of_mem hyl
  have li := (List.getElem?_eq_some_iff.1 hi).1
  have lj := (List.getElem?_eq_some_iff.1 hj).1
  rw [List.pairwise_iff_getElem] at hns
  rw [List.getElem?_eq_getElem li] at hi
  rw [List.getElem?_eq_getElem lj] at hj
  rcases Nat.lt_trichotomy i j with h | h | h
  · exact absurd (by rw [Option.some.inj hi, Option.some.inj hj, hyn]) (hns i j li lj h)
  · subst h; rw [← Option.some.inj hi, Option.some.inj hj]; exact hy
  · exact absurd (by rw [Option.some.inj hi, Option.some.inj hj, hyn]) (hns j i lj li h)
end
def idOf8 (e : ME Key En8) : Nat → Int := tipOf e.k.1
def ids8 (m : St8) : List (Nat → Int) := m.l.map idOf8
theorem idOf8_ok (e : ME Key En8) : IdOk (idOf8 e) := tip_ok _
theorem idOf8_can (e : ME Key En8) : IdCan (idOf8 e) := fun i hi => by
  show (((e.k.1.getD i 0).toNat : Int)) = 0
  rw [List.getD_eq_getElem?_getD, List.getElem?_eq_none (by rw [e.k.2]; exact hi)]; rfl
theorem map_next8 {es : List (ME Key En8)} {e : ME Key En8} : es.map idOf8 ++ [tipOf e.k.1] = (es ++ [e]).map idOf8 := by simp [idOf8]

theorem ids_congr {m : St8} {es : List (ME Key En8)} (h : ∀ e, e ∈ es ↔ e ∈ m.l) (x : Nat → Int) : x ∈ es.map idOf8 ↔ x ∈ ids8 m := by
  simp only [ids8, List.mem_map, h]
theorem ids8_ok (es : List (ME Key En8)) : ∀ x ∈ es.map idOf8, IdOk x := fun x hx => by
  obtain ⟨e, _, rfl⟩ := List.mem_map.1 hx; exact idOf8_ok e
theorem ids8_can (es : List (ME Key En8)) : ∀ x ∈ es.map idOf8, IdCan x := fun x hx => by
  obtain ⟨e, _, rfl⟩ := List.mem_map.1 hx; exact idOf8_can e

theorem c_stIDs (s : Nat) (mb : Nat) (m : St8) (w : World) (hst : StOk m) (hH : Hp [(s, .cells #[.int .i64 m.q, .int .i64 m.sz, .map (some mb)] 69 (0, 0)), (mb, mapO keyV en8V m.l m.c)] w) : Calls Tryz.prog 24 #[.pointer (some ⟨s, 0, none⟩)] w (Ret w [] fun v H1 => ∃ ts st', SetOf (ids8 m) ts ∧ BldOk 32 (idC) ts st' ∧ v = bldVx ts st' ∧ H1 = bldMx 35 (idC) ts st') := by
 refine fn_enter (args := [_]) func24 rfl ntmps24 rfl hH (sq (pl (qa rfl (n0 (sq (sq (pl (qm rfl (cG rfl call77 (fun w hw => c_stNone s mb m w hst hw.s) ?_)))))))))
 rintro v1 H2 ⟨rfl, rfl⟩ -
 refine n0 (pn_condF rfl (sk (sq (pl (qa rfl (n0 (sq (sq (pl ?_)))))))))
 refine qm rfl (qn rfl (qq rfl (RD.fieldAddr (o := 2) runUnderlying69 rfl rfl sizeOf67 rfl) (ql rfl (RD.load (i := 0) isAgg67 rfl rfl rfl) (TE_rangeM (ek := keyV) (ev := en8V) (l := m.l) 1 rfl underlying67 rfl rfl trivial rfl fun b11 hb11 => (n0 (pn_block (lpS (σ := (List (ME Key En8)) × SnkS) (fun q => [(11, .pointer (some ⟨b11, 0, none⟩)), (3, bldVx (q.1.map idOf8) q.2)]) (fun q => ((b11, .mapIter (some mb) m.c (q.1.map (·.n)).toArray m.c) :: (s, .cells #[.int .i64 m.q, .int .i64 m.sz, .map (some mb)] 69 (0, 0)) :: (mb, mapO keyV en8V m.l m.c) :: (bldMx 35 idC (q.1.map idOf8) q.2))) (fun q => (∀ e ∈ q.1, e ∈ m.l) ∧ ((q.1.map (·.n)).Nodup) ∧ (BldOk 32 idC (q.1.map idOf8) q.2) ∧ (∀ e ∈ bldMx 35 idC (q.1.map idOf8) q.2, w.heap.size ≤ e.1 ∨ e.1 ∈ [])) (fun q => m.l.length - q.1.length) ([], none) ⟨(fun e h => nomatch h), List.nodup_nil, BldOk.nil, (by intro e he; cases he)⟩ ⟨rfl, rfl, trivial⟩ ?_)))))))
 rintro ⟨es, st3⟩ ⟨hsub, hndp, hbost3, hXst3⟩
 dsimp only at hsub hndp hbost3 hXst3 ⊢
 have hRst3 := hbost3.rdx (u := 35) idC_len
 have hsl := seen_le hsub hndp
 have hmn := hst.n
 refine sq (pl (TE_nextM (ek := keyV) (ev := en8V) (l := m.l) (seen := (es.map (·.n)).toArray) (i := 0) (j := 2) rfl rfl trivial rfl rfl rfl (hst.ok).lt (Nat.le_refl _) (.inl hb11) (fun hall6 => ?_) (fun e3 he4 hns5 => ?_)))
 ·refine qe rfl (n0 (sq (pn_condF rfl (xt (sq (pl (qm rfl (cG rfl call35 (fun w hw => c_hashSet (bldMx 35 idC (es.map idOf8) st3) (bldVx (es.map idOf8) st3) (es.map idOf8) w hRst3.s (ids8_can es) (ids8_ok es) (by simp; omega) hw.s) ?_))))))))
  rintro v13 H14 ⟨ts7, st9, hset8, hbo10, rfl, rfl⟩ hX11
  have hRD12 := hbo10.rdx (u := 35) idC_len
  exact tsp ((b11, .mapIter (some mb) m.c (es.map (·.n)).toArray m.c) :: (s, .cells #[.int .i64 m.q, .int .i64 m.sz, .map (some mb)] 69 (0, 0)) :: (mb, mapO keyV en8V m.l m.c) :: ((bldMx 35 (idC) ts7 st9) ++ (bldMx 35 (idC) (es.map idOf8) st3))) (qa rfl (n0 (rt (dS (bldMx 35 idC ts7 st9) rfl rfl ⟨_, st9, (hset8.congr (ids_congr (seen_all hst.ok.ns hsub hall6))), hbo10, rfl, rfl⟩ (ownN hX11)))))
 ·refine qe rfl (n0 (sq (pn_condT rfl (sk (pn_block (sq (pl (ql rfl (RD.entryM (ek := keyV) (ev := en8V) (l := m.l) (e := e3) (i := 0) (j := 2) rfl rfl rfl hst.ok he4) (qe rfl ?_)))))))))
  refine TE_allocC (idV (fun _ => 0)).cells rfl zeroValue35 rfl trivial rfl fun b4 hb4 => (TE_putCW 0 _ _ ((b4, .cells (idV (tipOf e3.k.1)).cells 35 (0, 0)) :: (b11, .mapIter (some mb) m.c ((es.map (·.n)).toArray.push e3.n) m.c) :: (s, .cells #[.int .i64 m.q, .int .i64 m.sz, .map (some mb)] 69 (0, 0)) :: (mb, mapO keyV en8V m.l m.c) :: (bldMx 35 idC (es.map idOf8) st3)) rfl sizeOf35 trivial rfl rfl rfl rfl rfl rfl rfl rfl (.inl hb4) (n0 (pl (qm rfl (ql rfl (RD.loadA (i := 0) isAgg35 sizeOf35 rfl rfl (Nat.le_of_ble_eq_true rfl) (id_all _)) (TE_buildSlice (cells := (cat idC [(tipOf e3.k.1)] ++ []).toArray) rfl runUnderlying41 sizeOf35 zeroValue35 rfl rfl rfl (by kernel_rfl) trivial rfl fun b18 hb18 => (tsp ((bldMx 35 (idC) (es.map idOf8) st3) ++ [(b18, .cells (cat idC [(tipOf e3.k.1)] ++ []).toArray 35 (0, 0)), (b4, .cells (idV (tipOf e3.k.1)).cells 35 (0, 0)), (b11, .mapIter (some mb) m.c ((es.map (·.n)).toArray.push e3.n) m.c), (s, .cells #[.int .i64 m.q, .int .i64 m.sz, .map (some mb)] 69 (0, 0)), (mb, mapO keyV en8V m.l m.c)]) (TE_appendX (st := st3) (l := (es.map idOf8)) (ys := [(tipOf e3.k.1)]) [(b18, .cells (cat idC [(tipOf e3.k.1)] ++ []).toArray 35 (0, 0)), (b4, .cells (idV (tipOf e3.k.1)).cells 35 (0, 0)), (b11, .mapIter (some mb) m.c ((es.map (·.n)).toArray.push e3.n) m.c), (s, .cells #[.int .i64 m.q, .int .i64 m.sz, .map (some mb)] 69 (0, 0)), (mb, mapO keyV en8V m.l m.c)] idC_len idC_one rfl rfl rfl rfl trivial rfl underlying41 elId rfl rfl rfl hbost3 (Rdx.blk (enc := idC) (H := [(b18, .cells (cat idC [(tipOf e3.k.1)] ++ []).toArray 35 (0, 0))]) (xs := [(tipOf e3.k.1)]) (n := 1) (i := 0) (tl := []) (c := 1) idC_len rfl rfl (Nat.le_refl _)) sb (by simp; omega) rfl hXst3 ?_))))))))
  intro st15 hbo16 hX17 _
  have hR19 := hbo16.rdx (u := 35) idC_len
  refine tsp ((b18, .cells (cat idC [(tipOf e3.k.1)] ++ []).toArray 35 (0, 0)) :: (b4, .cells (idV (tipOf e3.k.1)).cells 35 (0, 0)) :: (b11, .mapIter (some mb) m.c ((es.map (·.n)).toArray.push e3.n) m.c) :: (s, .cells #[.int .i64 m.q, .int .i64 m.sz, .map (some mb)] 69 (0, 0)) :: (mb, mapO keyV en8V m.l m.c) :: (bldMx 35 (idC) ((es.map idOf8) ++ [(tipOf e3.k.1)]) st15)) (qa rfl (n0 ?_))
  have he20 : (es.map (·.n)).toArray.push e3.n = (((es ++ [e3])).map (·.n)).toArray := by simp
  refine pn_sp ((b18, .cells (cat idC [(tipOf e3.k.1)] ++ []).toArray 35 (0, 0)) :: (b4, .cells (idV (tipOf e3.k.1)).cells 35 (0, 0)) :: (b11, .mapIter (some mb) m.c ((es ++ [e3]).map (·.n)).toArray m.c) :: (s, .cells #[.int .i64 m.q, .int .i64 m.sz, .map (some mb)] 69 (0, 0)) :: (mb, mapO keyV en8V m.l m.c) :: (bldMx 35 idC ((es.map idOf8) ++ [(tipOf e3.k.1)]) st15)) (fun a => by rw [he20]; exact Nat.le_refl _) ?_
  have he21 : ((es.map idOf8) ++ [(tipOf e3.k.1)]) = ((es ++ [e3]).map idOf8) := map_next8
  exact pn_againS ((es ++ [e3]), st15) ⟨(seen_sub hsub he4), (seen_nd hndp hns5), (by rw [← he21]; exact hbo16), (by rw [← he21]; exact hX17)⟩ (by have h9 := seen_lt hsub hndp he4 hns5; simp only [List.length_append, List.length_cons, List.length_nil]; omega) ⟨rfl, (congrArg (fun l => some (bldVx l st15)) he21), trivial⟩ (fun a => by (try simp only [← he21]); simp -failIfUnchanged <;> omega)
end Go.Proofs.YtcmnmigcalibdaaGreatDoor

namespace Go.Proofs.YtcmnmigcalibdaaGreatDoor
open Go Go.Mv
set_option maxRecDepth 8000
theorem kOf_tip (k : Key) : kOf (tipOf k.1) = k := by
  apply Subtype.ext
  show tipL (tipOf k.1) = k.1
  apply List.ext_getElem?
  intro i
  by_cases hi : i < 32
  · have hl := k.2
    simp only [tipL, List.getElem?_map, List.getElem?_range hi, Option.map_some, tipOf]
    rw [List.getElem?_eq_getElem (by omega), List.getD_eq_getElem?_getD, List.getElem?_eq_getElem (by omega)]
    simp
  · rw [List.getElem?_eq_none (by rw [tipL_len]; omega), List.getElem?_eq_none (by rw [k.2]; omega)]
theorem ids_len {m : St8} {ts : List (Nat → Int)} (h : StOk m) (hs : SetOf (ids8 m) ts) : ts.length = m.l.length := by
  have hn : (ids8 m).Nodup := by
    rw [ids8, List.nodup_iff_pairwise_ne]
    refine List.pairwise_map.2 (h.ok.ks.imp fun {a b} hab he => hab ?_)
    rw [← kOf_tip a.k, ← kOf_tip b.k]
    exact congrArg kOf he
  have hp : ts.Perm (ids8 m) := (List.perm_ext_iff_of_nodup (srt_nodup hs.1) hn).2 hs.2
  rw [hp.length_eq, ids8, List.length_map]

end Go.Proofs.YtcmnmigcalibdaaGreatDoor

namespace Go.Proofs.YtcmnmigcalibdaaGreatDoor
open Go.Proofs.Tryz
open Go Go.Mv
set_option maxRecDepth 8000
theorem run_clone8 {κ β : Type} {ek : κ → Value} {ev : β → Value} {w : World} {r : Nat} {l : List (ME κ β)} {c : Nat} (T : TypeId) (h : w.heap[r]? = some (mapO ek ev l c)) :
    (callFunc 152 (#[.iface T (.map (some r))] : Array Value)).run Tryz.prog w = .ok (.value (.iface T (.map (some w.heap.size)))) (w.alloc (mapO ek ev l c)) := by
  have e : (Extern.MapsClone.clone #[.iface T (.map (some r))]).run Tryz.prog w = .ok (.iface T (.map (some w.heap.size))) (w.alloc (mapO ek ev l c)) := by
    show ((getObj r >>= fun o => match o with
      | .map entries clock => (newObj (.map entries clock) >>= fun n => pure (.iface T (.map (some n))))
      | _ => stuck "maps.clone: a map expected") : Sem Value).run Tryz.prog w = _
    simp only [Sem.run_bind, getObj_map h, Result.andThen_ok]
    simp [mapO, go_sem, Result.andThen]
  rw [run_callFunc_extern func152 (by kernel_rfl) (by kernel_rfl) (by kernel_rfl) (e := Extern.MapsClone.clone) (by kernel_rfl), e]
  rfl

theorem c_clone8 (mb : Nat) (l : List (ME Key En8)) (c : Nat) (w : World) (hok : MOk l c) (hH : Hp [(mb, mapO keyV en8V l c)] w) : Calls Tryz.prog 94 #[.map (some mb)] w (Ret w [] fun v H1 => ∃ b, v = .map (some b) ∧ H1 = [(b, mapO keyV en8V l c)]) := by
 refine fn_enter (args := [_]) func94 rfl ntmps94 rfl hH (sq (pl (qa rfl (n0 (sq (sq (pl (qm rfl (qq rfl (RD.as (v := .bool false) (RD.map_eql_nil underlying67 rfl rfl) rfl) ?_)))))))))
 refine n0 (pn_condF rfl (sk (sq (pl (qm rfl (qq rfl (RD.mkIfaceM underlying67 rfl) (TE_callX (obj := mapO keyV en8V l c) (vf := fun n => .iface 67 (.map (some n))) rfl rfl trivial rfl rfl rfl (fun w hw => run_clone8 _ (hw.get (i := 0) rfl)) fun b7 hb7 => (qq rfl (RD.assertM underlying67 rfl) (qa rfl ?_)))))))))
 exact n0 (rt (dS [(b7, mapO keyV en8V l c)] rfl rfl ⟨b7, rfl, rfl⟩ (ownC (.inl hb7) own0)))
theorem c_stCopy (s : Nat) (mb : Nat) (m : St8) (w : World) (hst : StOk m) (hH : Hp [(s, .cells #[.int .i64 m.q, .int .i64 m.sz, .map (some mb)] 69 (0, 0)), (mb, mapO keyV en8V m.l m.c)] w) : Calls Tryz.prog 36 #[.pointer (some ⟨s, 0, none⟩)] w (Ret w [] fun v H1 => ∃ s' mb', v = .pointer (some ⟨s', 0, none⟩) ∧ H1 = [(s', .cells #[.int .i64 m.q, .int .i64 m.sz, .map (some mb')] 69 (0, 0)), (mb', mapO keyV en8V m.l m.c)]) := by
 refine fn_enter (args := [_]) func36 rfl ntmps36 rfl hH (sq (pl (qa rfl (n0 (sq (sq (pl (qm rfl (cG rfl call77 (fun w hw => c_stNone s mb m w hst hw.s) ?_)))))))))
 rintro v1 H2 ⟨rfl, rfl⟩ -
 refine n0 (pn_condF rfl (sk (sq (dG [3, 7, 11] [] [(s, .cells #[.int .i64 m.q, .int .i64 m.sz, .map (some mb)] 69 (0, 0)), (mb, mapO keyV en8V m.l m.c)] (qm rfl (qn rfl (qq rfl (RD.fieldAddr (o := 0) runUnderlying69 rfl rfl sizeOf3 rfl) (qq rfl (RD.load (i := 0) isAgg3 rfl rfl rfl) (qm rfl ?_)))))))))
 refine qn rfl (qq rfl (RD.fieldAddr (o := 1) runUnderlying69 rfl rfl sizeOf3 rfl) (qq rfl (RD.load (i := 0) isAgg3 rfl rfl rfl) (qm rfl (qn rfl (qq rfl (RD.fieldAddr (o := 2) runUnderlying69 rfl rfl sizeOf67 rfl) (qq rfl (RD.load (i := 0) isAgg67 rfl rfl rfl) (cG rfl call94 (fun w hw => c_clone8 mb m.l m.c w hst.ok hw.s) ?_)))))))
 rintro v5 H6 ⟨mb3, rfl, rfl⟩ hX4
 exact tsp [(mb3, mapO keyV en8V m.l m.c)] (qq rfl (RD.build (v := .agg #[.int .i64 m.q, .int .i64 m.sz, .map (some mb3)]) rfl (fun w => by simp [Instr.build, zeroValue69, runUnderlying69, sizeOf3, sizeOf3, sizeOf67, Value.cells, Instr.fill])) (TE_boxC #[.int .i64 m.q, .int .i64 m.sz, .map (some mb3)] rfl rfl rfl trivial rfl fun b19 hb19 => (qa rfl (TE_nil (rt (dS [(b19, .cells #[.int .i64 m.q, .int .i64 m.sz, .map (some mb3)] 69 (0, 0)), (mb3, mapO keyV en8V m.l m.c)] rfl rfl ⟨b19, mb3, rfl, rfl⟩ (ownC (.inl hb19) (ownC (.inl (hX4 _ List.mem_cons_self)) own0))))))))
end Go.Proofs.YtcmnmigcalibdaaGreatDoor
