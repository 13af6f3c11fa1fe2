import Derived.Test.YtmjmaloapafnlaaGreatDoorGbc
namespace Go.Proofs.YtmjmaloapafnlaaGreatDoor
open Tryz
open Go Go.Mv
set_option maxRecDepth 8000
theorem cut64 {L : List UInt8} {m : Nat} (h : 64 * m + 64 ≤ L.length) : ((L.take (64 * m + 64)).drop (64 * m)).length = 64 := by
  rw [List.length_drop, List.length_take]; omega

theorem c_Of3 (bv : Value) (b : List UInt8) (HX : Mem) (w : World) (hbb : Rdb HX bv b) (hlb : b.length ≤ 1000000) (hH : Hp HX w) : Calls Tryz.prog 70 #[bv] w (Ret w [] fun v H1 => v = idV (shaF b) ∧ H1 = []) := by
 refine fn_enter (args := [_]) func70 rfl ntmps70 rfl hH (sq (pl (TE_allocC (idV (fun _ => 0)).cells rfl zeroValue36 rfl trivial rfl fun b2 hb2 => (n0 (sq (pl (TE_buildSlice (cells := #[.int .u32 1779033703, .int .u32 3144134277, .int .u32 1013904242, .int .u32 2773480762, .int .u32 1359893119, .int .u32 2600822924, .int .u32 528734635, .int .u32 1541459225]) rfl runUnderlying204 sizeOf129 zeroValue129 rfl rfl rfl (by kernel_rfl) trivial rfl fun b9 hb9 => (qa rfl (n0 ?_)))))))))
 refine sq (pl (qm rfl (cG rfl call127 (fun w hw => c_padded bv b HX w hbb.s hlb hw.s) ?_)))
 rintro v5 H6 ⟨st1, hbo2, rfl, rfl⟩ hX3
 have hRD4 := hbo2.rdx (u := 5) byteC_len
 refine tsp ((b9, .cells #[.int .u32 1779033703, .int .u32 3144134277, .int .u32 1013904242, .int .u32 2773480762, .int .u32 1359893119, .int .u32 2600822924, .int .u32 528734635, .int .u32 1541459225] 129 (0, 0)) :: (b2, .cells (idV (fun _ => 0)).cells 36 (0, 0)) :: ((bldMx 5 (byteC) (b ++ shaTail b.length) st1) ++ HX)) (qa rfl (n0 (sq (plG [] ((b9, .cells #[.int .u32 1779033703, .int .u32 3144134277, .int .u32 1013904242, .int .u32 2773480762, .int .u32 1359893119, .int .u32 2600822924, .int .u32 528734635, .int .u32 1541459225] 129 (0, 0)) :: (b2, .cells (idV (fun _ => 0)).cells 36 (0, 0)) :: (bldMx 5 byteC (b ++ shaTail b.length) st1)) (cG rfl call128 (fun w hw => c_constants  w  hw.s) ?_)))))
 rintro v11 H12 ⟨st7, hbo8, rfl, rfl⟩ hX9
 have hRD10 := hbo8.rdx (u := 129) wdC_len
 refine tsp ((b9, .cells #[.int .u32 1779033703, .int .u32 3144134277, .int .u32 1013904242, .int .u32 2773480762, .int .u32 1359893119, .int .u32 2600822924, .int .u32 528734635, .int .u32 1541459225] 129 (0, 0)) :: (b2, .cells (idV (fun _ => 0)).cells 36 (0, 0)) :: ((bldMx 129 (wdC) shaK st7) ++ (bldMx 5 (byteC) (b ++ shaTail b.length) st1))) (qa rfl (n0 (sq (sq (pl (qa rfl (n0 (pn_block (lpS (σ := Nat × S8 × Value × Mem) (fun q => [(2, .pointer (some ⟨b2, 0, none⟩)), (4, bldVx (b ++ shaTail b.length) st1), (5, bldVx shaK st7), (3, q.2.2.1), (6, .int .i64 (64 * (q.1 : Int)))]) (fun q => ((b2, .cells (idV (fun _ => 0)).cells 36 (0, 0)) :: (q.2.2.2 ++ ((bldMx 129 (wdC) shaK st7) ++ (bldMx 5 byteC (b ++ shaTail b.length) st1))))) (fun q => (Rdx 1 (wdC) q.2.2.2 q.2.2.1 (S8.l q.2.1)) ∧ (∀ e ∈ q.2.2.2, w.heap.size ≤ e.1 ∨ e.1 ∈ []) ∧ (q.2.1 = shaAll shaB ((b ++ shaTail b.length).take (64 * q.1))) ∧ (64 * q.1 ≤ (b ++ shaTail b.length).length)) (fun q => (b ++ shaTail b.length).length - 64 * q.1) (0, shaB, .slice (some ⟨b9, 0, none⟩) 8 8, [(b9, .cells #[.int .u32 1779033703, .int .u32 3144134277, .int .u32 1013904242, .int .u32 2773480762, .int .u32 1359893119, .int .u32 2600822924, .int .u32 528734635, .int .u32 1541459225] 129 (0, 0))]) ⟨(show Rdx 1 (wdC) [(b9, .cells #[.int .u32 1779033703, .int .u32 3144134277, .int .u32 1013904242, .int .u32 2773480762, .int .u32 1359893119, .int .u32 2600822924, .int .u32 528734635, .int .u32 1541459225] 129 (0, 0))] (.slice (some ⟨b9, 0, none⟩) 8 8) (S8.l shaB) from (Rdx.blk (enc := wdC) (H := [(b9, .cells #[.int .u32 1779033703, .int .u32 3144134277, .int .u32 1013904242, .int .u32 2773480762, .int .u32 1359893119, .int .u32 2600822924, .int .u32 528734635, .int .u32 1541459225] 129 (0, 0))]) (xs := ([(1779033703 : UInt32), (3144134277 : UInt32), (1013904242 : UInt32), (2773480762 : UInt32), (1359893119 : UInt32), (2600822924 : UInt32), (528734635 : UInt32), (1541459225 : UInt32)] : List UInt32)) (n := 8) (i := 0) (tl := []) (c := 8) wdC_len rfl rfl (Nat.le_refl _))), ((ownC (.inl hb9) own0)), (by rw [Nat.mul_zero, List.take_zero, shaAll_end (l := []) (by simp)]), (by omega)⟩ ⟨rfl, rfl, rfl, rfl, rfl, trivial⟩ ?_)))))))))
 rintro ⟨m, ss, lv9, HL9⟩ ⟨hb9, hX9, hss, hm⟩
 dsimp only at hb9 hX9 hss hm ⊢
 have hpl := pad_len b
 have htl := shaTail_len b.length
 have hal : (b ++ shaTail b.length).length = b.length + (shaTail b.length).length := List.length_append
 refine sq (sq (pn_plain [2] rfl (qm rfl (qm rfl (qq rfl (RD.lenX runUnderlying32 rfl hRD4) (qq rfl (RD.lss rfl rfl) (n0 (pn_condD rfl (fun hc13 => ?_) (fun hc13 => ?_)))))))))
 ·have hx64 := cut64 (L := (b ++ shaTail b.length)) (m := m) (by omega)
  refine sk (sq (pn_block (pl (qm rfl (qm rfl (qm rfl (qm rfl (qq rfl (RD.addI rfl rfl (by omega) (by omega)) (qq rfl (RD.sliceX (l := (64 * m)) (h := ((64 * m) + 64)) runUnderlying32 sizeOf5 rfl hRD4 ⟨_, rfl⟩ ⟨_, rfl⟩ (by omega) (by omega)) ?_)))))))))
  refine qm rfl (cG rfl call129 (fun w hw => c_turn lv9 ss (subVx 1 (64 * m) ((64 * m) + 64) (bldVx (b ++ shaTail b.length) st1)) (((b ++ shaTail b.length).take ((64 * m) + 64)).drop (64 * m)) (bldVx shaK st7) (HL9 ++ ((bldMx 129 (wdC) shaK st7) ++ (bldMx 5 byteC (b ++ shaTail b.length) st1))) w hb9.s ((Rdb.of_x (hRD4.sub (l := (64 * m)) (r := ((64 * m) + 64)) (by omega) (by omega))).mono sb) (by first | assumption | omega | (intro x hx; simp_all)) hRD10.s hw.s) ?_)
  rintro v18 H19 ⟨st14, hbo15, rfl, rfl⟩ hX16
  have hRD17 := hbo15.rdx (u := 129) wdC_len
  refine tsp ((b2, .cells (idV (fun _ => 0)).cells 36 (0, 0)) :: ((bldMx 129 (wdC) (S8.l (shaMix ss (((b ++ shaTail b.length).take ((64 * m) + 64)).drop (64 * m)))) st14) ++ (HL9 ++ ((bldMx 129 (wdC) shaK st7) ++ (bldMx 5 (byteC) (b ++ shaTail b.length) st1))))) (qa rfl (n0 (plG [] ((b2, .cells (idV (fun _ => 0)).cells 36 (0, 0)) :: ((bldMx 129 (wdC) (S8.l (shaMix ss (((b ++ shaTail b.length).take ((64 * m) + 64)).drop (64 * m)))) st14) ++ ((bldMx 129 (wdC) shaK st7) ++ (bldMx 5 byteC (b ++ shaTail b.length) st1)))) (qm rfl (qq rfl (RD.addI rfl rfl (by omega) (by omega)) (qa rfl (n0 ?_)))))))
  have he21 : ((64 * (m : Int)) + 64) = (64 * ((m + 1) : Int)) := (by omega)
  exact agS ((m + 1), (shaMix ss (((b ++ shaTail b.length).take ((64 * m) + 64)).drop (64 * m))), bldVx (S8.l (shaMix ss (((b ++ shaTail b.length).take ((64 * m) + 64)).drop (64 * m)))) st14, (bldMx 129 (wdC) (S8.l (shaMix ss (((b ++ shaTail b.length).take ((64 * m) + 64)).drop (64 * m)))) st14)) ⟨hRD17, ((ownN hX16)), (by rw [hss]; exact blk_next (by omega)), (by omega)⟩ (by dsimp only; omega) ⟨rfl, rfl, rfl, rfl, (congrArg (fun z => some (Value.int .i64 z)) he21), trivial⟩
 ·refine xt (sq (plG [] ((b2, .cells (idV (fun _ => 0)).cells 36 (0, 0)) :: HL9) (qq rfl (RD.build (v := idV (fun _ => 0)) rfl (bd_id0)) (TE_allocC (idV (fun _ => 0)).cells rfl zeroValue36 rfl trivial rfl fun b7 hb7 => (TE_putCW 0 _ _ ((b7, .cells (idV (fun _ => 0)).cells 36 (0, 0)) :: (b2, .cells (idV (fun _ => 0)).cells 36 (0, 0)) :: HL9) rfl sizeOf36 trivial rfl rfl rfl rfl rfl rfl rfl rfl (.inl hb7) (n0 (sq (sq (pl ?_)))))))))
  refine qa rfl (n0 (pn_block ?_))
  have hz0 : (idV (idUpB ss 0)).cells = (idV (fun _ => 0)).cells := by rw [idUpB_0]
  refine pn_sp ((b7, .cells (idV (idUpB ss 0)).cells 36 (0, 0)) :: (b2, .cells (idV (fun _ => 0)).cells 36 (0, 0)) :: HL9) (fun a => by rw [hz0]; exact Nat.le_refl _) (lpS (σ := Nat) (fun q => [(2, .pointer (some ⟨b2, 0, none⟩)), (3, lv9), (7, .pointer (some ⟨b7, 0, none⟩)), (8, .int .i64 (q : Int))]) (fun q => ((b7, .cells (idV (idUpB ss q)).cells 36 (0, 0)) :: (b2, .cells (idV (fun _ => 0)).cells 36 (0, 0)) :: HL9)) (fun q => (q ≤ 32)) (fun q => 32 - q) 0 (by omega) ⟨rfl, rfl, rfl, rfl, trivial⟩ ?_)
  rintro i1 hi1
  have hsl : (S8.l ss).length = 8 := rfl
  refine sq (sq (pl (qm rfl (qq rfl (RD.lss rfl rfl) (n0 (pn_condD rfl (fun hc22 => ?_) (fun hc22 => ?_)))))))
  ·refine sk (sq (pn_block (pn_plain [10, 12] rfl (qm rfl (qm rfl (qm rfl (qq rfl (RD.as (v := .int .i64 ((i1 / 4 : Nat) : Int)) (RD.quo rfl rfl (by decide)) (congrArg (Value.int .i64) (by rw [show ((i1 : Int) : Int) = ((i1 : Nat) : Int) from by omega]; exact quo_nat (by omega)))) (qq rfl (RD.idxR (i := (i1 / 4 : Nat)) (o := ((i1 / 4 : Nat) * 1 + 0)) runUnderlying204 sizeOf129 rfl hb9 rfl rfl (by omega) (by rfl)) (ql rfl (RD.ldR (i := (i1 / 4 : Nat)) (j := 0) (u := .int .u32 ((gt (S8.l ss) (i1 / 4 : Nat)).toNat : Int)) isAgg129 rfl hb9 (gt_some (by omega)) (by rfl) rfl sb) ?_)))))))))
   refine qm rfl (qq rfl (RD.as (v := .int .i64 ((i1 % 4 : Nat) : Int)) (RD.rem rfl rfl (by decide)) (congrArg (Value.int .i64) (by rw [show ((i1 : Int) : Int) = ((i1 : Nat) : Int) from by omega]; exact tmod_nat _ _))) (qq rfl (RD.mulI rfl rfl (by omega) (by omega)) (qq rfl (RD.subI rfl rfl (by omega) (by omega)) (qq rfl (RD.as (v := .int .u64 ((24 - 8 * (i1 % 4) : Nat) : Int)) (RD.conv runUnderlying3 runUnderlying121 rfl) (congrArg (Value.int .u64) (by rw [u64_wrap]; omega))) (qq rfl (RD.shrW (a := (gt (S8.l ss) (i1 / 4 : Nat))) (n := (24 - 8 * (i1 % 4) : Nat)) rfl rfl (by omega)) (qq rfl (RD.narW (a := ((gt (S8.l ss) (i1 / 4 : Nat)) >>> UInt32.ofNat (24 - 8 * (i1 % 4) : Nat))) runUnderlying129 runUnderlying5 rfl) (qq rfl (RD.indexAddrA runUnderlying36 sizeOf5 rfl rfl (by omega) (by omega)) (TE_storeC 0 _ _ ((b7, .cells (idV (upd (idUpB ss i1) i1 (((((gt (S8.l ss) (i1 / 4 : Nat)) >>> UInt32.ofNat (24 - 8 * (i1 % 4) : Nat))).toUInt8).toNat : Int))).cells 36 (0, 0)) :: (b2, .cells (idV (fun _ => 0)).cells 36 (0, 0)) :: HL9) rfl sizeOf5 trivial rfl rfl rfl rfl rfl (id_lt i1 (by omega) (by omega)) (id_put i1 (by omega) (by omega)) rfl (.inl hb7) (n0 ?_)))))))))
   refine pl (qm rfl (qq rfl (RD.addI rfl rfl (by omega) (by omega)) (qa rfl (n0 ?_))))
   have hnx : (idV (upd (idUpB ss i1) i1 (((((gt (S8.l ss) (i1 / 4 : Nat)) >>> UInt32.ofNat (24 - 8 * (i1 % 4) : Nat))).toUInt8).toNat : Int))).cells = (idV (idUpB ss (i1 + 1))).cells := idUpB_next ss (i := i1) (by omega)
   exact pn_sp ((b7, .cells (idV (idUpB ss (i1 + 1))).cells 36 (0, 0)) :: (b2, .cells (idV (fun _ => 0)).cells 36 (0, 0)) :: HL9) (fun a => by rw [← hnx]; exact Nat.le_refl _) (agS (i1 + 1) (by omega) (by omega) ⟨rfl, rfl, rfl, rfl, trivial⟩)
  ·refine xt (sq (plG [] [(b7, .cells (idV (idUpB ss i1)).cells 36 (0, 0)), (b2, .cells (idV (fun _ => 0)).cells 36 (0, 0))] (ql rfl (RD.loadA (i := 0) isAgg36 sizeOf36 rfl rfl (Nat.le_of_ble_eq_true rfl) (id_all _)) (TE_putCW 1 _ _ [(b7, .cells (idV (idUpB ss i1)).cells 36 (0, 0)), (b2, .cells (idV (idUpB ss i1)).cells 36 (0, 0))] rfl sizeOf36 trivial rfl rfl rfl rfl rfl rfl rfl rfl (.inl hb2) (n0 (rt ?_))))))
   have h32 : i1 = 32 := (by omega)
   exact pn_doneF rfl ⟨idV (idUpB ss i1), _, b2, 0, rfl, rfl, load_agg (i := 1) isAgg36 sizeOf36 rfl (Nat.le_of_ble_eq_true rfl) (id_all _), rfl⟩ ⟨(by rw [h32, idUpB_32, hss, List.take_of_length_le (by omega), ← shaF_eq b]; rfl), rfl⟩ (fun _ h => h.sp (fun _ => Nat.zero_le _)) (fun _ he => nomatch he)
end Go.Proofs.YtmjmaloapafnlaaGreatDoor

namespace Go.Proofs.YtmjmaloapafnlaaGreatDoor
open Go Go.Mv
set_option maxRecDepth 8000
theorem pair2 {α β : Type} {p : α × β} {b : β} (h : p.2 = b) : p = (p.1, b) := by rw [← h]
theorem getM_some {α : Type} {z x : α} {d : List UInt8 → Dr α} {o : Option (List UInt8)} {r : List UInt8} (h : getM z d o = (x, some r)) : ∃ ys, o = some ys ∧ d ys = .ok x r := by
  cases o with
  | none => simp [getM] at h
  | some ys =>
    refine ⟨ys, rfl, ?_⟩
    simp only [getM] at h
    split at h
    · rename_i hd; cases h; exact hd
    · cases h
theorem toB_byte (c : UInt8) : toB (IntKind.u8.wrap (c.toNat : Int)) = c := by
  have h := UInt8.toNat_lt c
  rw [wrap8, Nat.mod_eq_of_lt h, toB]
  simp
theorem toB_wrap {k : Int} (h0 : 0 ≤ k) (h1 : k < 256) : ((toB (IntKind.u8.wrap k)).toNat : Int) = k := by
  obtain ⟨n, rfl⟩ := Int.eq_ofNat_of_zero_le h0
  rw [wrap8, toB, Nat.mod_eq_of_lt (by omega), Int.toNat_natCast, UInt8.toNat_ofNat_of_lt' (by show n < 256; omega)]
theorem one_some {o : Option (List UInt8)} {r : List UInt8} (h : (oneM o).2 = some r) : ∃ c : UInt8, o = some (c :: r) ∧ (oneM o).1 = (c.toNat : Int) := by
  obtain ⟨ys, rfl, hd⟩ := getM_some (pair2 (p := getM [] (rawD 1) o) h)
  obtain ⟨h1, h2⟩ := rawD_ok hd
  obtain ⟨c, hc⟩ := List.length_eq_one_iff.1 h2
  refine ⟨c, by rw [h1, hc]; rfl, ?_⟩
  show oneZ (getM [] (rawD 1) (some ys)).1 = _
  rw [hc]; rfl
theorem id_some {o : Option (List UInt8)} {r : List UInt8} (h : (idM o).2 = some r) : o = some (tipL (idM o).1 ++ r) := by
  obtain ⟨ys, rfl, hd⟩ := getM_some (pair2 (p := getM [] (rawD 32) o) h)
  obtain ⟨h1, h2⟩ := rawD_ok hd
  show _ = some (tipL (tipOf (getM [] (rawD 32) (some ys)).1) ++ r)
  rw [tipL_tipOf h2, ← h1]
theorem text_some {o : Option (List UInt8)} {r : List UInt8} (h : (textM o).2 = some r) : o = some (strB (textM o).1 ++ r) := by
  obtain ⟨ys, rfl, hd⟩ := getM_some (pair2 (p := getM [] (bytesD 4000) o) h)
  obtain ⟨h1, h2⟩ := bytesD_ok hd
  show some ys = some (strB ⟨(getM [] (bytesD 4000) (some ys)).1.toArray⟩ ++ r)
  rw [strB]
  simp only [List.toList_toArray]
  rw [← h1]
theorem ent_some {o : Option (List UInt8)} {r : List UInt8} (h : (entM o).2 = some r) : o = some (entB (entM o).1 ++ r) := by
  have h3 : (idM (oneM (textM o).2).2).2 = some r := h
  have e3 := id_some h3
  obtain ⟨c, e2, hk⟩ := one_some e3
  have e1 := text_some e2
  refine e1.trans (congrArg some ?_)
  show _ = entB ⟨(textM o).1, (oneM (textM o).2).1, (idM (oneM (textM o).2).2).1⟩ ++ r
  rw [entB]
  dsimp only
  rw [hk, toB_byte]
  simp
theorem sevL_some {α : Type} {f : Option (List UInt8) → α × Option (List UInt8)} {enc : α → List UInt8} (hf : ∀ o r, (f o).2 = some r → o = some (enc (f o).1 ++ r)) : ∀ (n : Nat) (o : Option (List UInt8)) (r : List UInt8), (sevL f n o).2 = some r → o = some ((sevL f n o).1.flatMap enc ++ r) ∧ (sevL f n o).1.length = n
  | 0, o, r, h => ⟨h, rfl⟩
  | n + 1, none, r, h => by cases h
  | n + 1, some ys, r, h => by
    obtain ⟨h1, h2⟩ := sevL_some hf n _ r h
    have h3 := hf _ _ h1
    refine ⟨?_, by simp only [sevL, List.length_cons, h2]⟩
    refine h3.trans (congrArg some ?_)
    simp only [sevL, List.flatMap_cons, List.append_assoc]
theorem sevM_some {α : Type} {f : Option (List UInt8) → α × Option (List UInt8)} {enc : α → List UInt8} (hf : ∀ o r, (f o).2 = some r → o = some (enc (f o).1 ++ r)) {m : Nat} {o : Option (List UInt8)} {r : List UInt8} (h : (sevM f m o).2 = some r) : o = some (lebL (sevM f m o).1.length ++ ((sevM f m o).1.flatMap enc ++ r)) := by
  obtain ⟨h1, h2⟩ := sevL_some hf _ _ r h
  obtain ⟨ys, rfl, hd⟩ := getM_some (pair2 (p := getM 0 (numD m) o) h1)
  have h3 := (numD_ok hd).1
  show some ys = some (lebL (sevL f _ _).1.length ++ _)
  rw [h2]
  exact congrArg some h3
def canE (e : Ent) : Ent := ⟨e.name, e.k, canI e.id⟩
def canOb (x : Ob) : Ob := ⟨x.k, x.data, x.ents.map canE, canI x.t, x.pars.map canI, ⟨x.tg.k, canI x.tg.id⟩, x.m⟩
theorem read_some {b : List UInt8} (h : (readO (some b)).2 = some []) (hok : obOkB (readO (some b)).1 = true) : obB (readO (some b)).1 = b := by
  unfold readO at h hok ⊢
  by_cases h1 : (oneM (some b)).1 = 1
  · rw [if_pos h1] at h ⊢
    obtain ⟨ys, e2, hd⟩ := getM_some (pair2 h)
    obtain ⟨c, e1, hk⟩ := one_some e2
    have hb := (bytesD_ok hd).1
    rw [List.append_nil] at hb
    refine Eq.trans ?_ (Option.some.inj e1).symm
    rw [obB, wB]
    dsimp only
    rw [if_pos h1, hk, toB_byte]
    exact congrArg (c :: ·) hb.symm
  rw [if_neg h1] at h hok ⊢
  by_cases h2 : (oneM (some b)).1 = 2
  · rw [if_pos h2] at h ⊢
    have e2 := sevM_some (enc := entB) (fun o r => ent_some) h
    obtain ⟨c, e1, hk⟩ := one_some e2
    refine Eq.trans ?_ (Option.some.inj e1).symm
    rw [obB, wB]
    dsimp only
    rw [if_neg h1, if_pos h2, hk, toB_byte, List.append_nil]; rfl
  rw [if_neg h2] at h hok ⊢
  by_cases h3 : (oneM (some b)).1 = 3
  · rw [if_pos h3] at h ⊢
    have e4 := text_some h
    have e3 := sevM_some (enc := tipL) (fun o r => id_some) e4
    have e2 := id_some e3
    obtain ⟨c, e1, hk⟩ := one_some e2
    refine Eq.trans ?_ (Option.some.inj e1).symm
    rw [obB, wB]
    dsimp only
    rw [if_neg h1, if_neg h2, if_pos h3, hk, toB_byte]
    simp only [List.append_nil, parsW, List.append_assoc]; rfl
  rw [if_neg h3] at h hok ⊢
  by_cases h4 : (oneM (some b)).1 = 4
  · rw [if_pos h4] at h ⊢
    have e4 := text_some h
    have e3 := id_some e4
    obtain ⟨d, e2, hj⟩ := one_some e3
    obtain ⟨c, e1, hk⟩ := one_some e2
    refine Eq.trans ?_ (Option.some.inj e1).symm
    rw [obB, wB]
    dsimp only
    rw [if_neg h1, if_neg h2, if_neg h3, hk, hj, toB_byte, toB_byte]
    simp only [List.append_nil, List.append_assoc]; rfl
  · rw [if_neg h4] at hok
    rw [chk0 h1 h2 h3 h4] at hok
    cases hok
theorem parse_some {b : List UInt8} {x : Ob} (h : parseM b = some x) : readO (some b) = (x, some []) ∧ obOkB x = true := by
  unfold parseM at h
  split at h
  · rename_i y hy
    split at h
    · rename_i hok; cases h; exact ⟨hy, hok⟩
    · cases h
  · cases h
theorem parse_back {b : List UInt8} {x : Ob} (h : parseM b = some x) : obB x = b ∧ obOkB x = true := by
  obtain ⟨h1, h2⟩ := parse_some h
  have h3 := read_some (b := b) (by rw [h1]) (by rw [h1]; exact h2)
  rw [h1] at h3
  exact ⟨h3, h2⟩
theorem one_back (c : UInt8) (r : List UInt8) : oneM (some (c :: r)) = ((c.toNat : Int), some r) := by
  have h := rawD_back [c] r
  show (oneZ (getM [] (rawD 1) (some ([c] ++ r))).1, (getM [] (rawD 1) (some ([c] ++ r))).2) = _
  simp only [getM]
  rw [show rawD 1 ([c] ++ r) = .ok [c] r from h]
  rfl
theorem tipOf_can {f : Nat → Int} (h : IdOk f) : tipOf (tipL f) = canI f := funext fun i => by
  by_cases hi : i < 32
  · rw [tipOf_tipL h hi, canI, if_pos hi]
  · rw [canI, if_neg hi, tipOf, List.getD_eq_getElem?_getD, List.getElem?_eq_none (by rw [tipL_len]; omega)]; rfl
theorem id_back {f : Nat → Int} (h : IdOk f) (r : List UInt8) : idM (some (tipL f ++ r)) = (canI f, some r) := by
  have h1 := rawD_back (tipL f) r
  rw [tipL_len] at h1
  show (tipOf (getM [] (rawD 32) (some (tipL f ++ r))).1, (getM [] (rawD 32) (some (tipL f ++ r))).2) = _
  simp only [getM]
  rw [h1]
  dsimp only
  rw [tipOf_can h]
theorem ba_toList (s : ByteArray) : (⟨s.data.toList.toArray⟩ : ByteArray) = s := by simp
theorem text_back {s : ByteArray} (h : s.size ≤ 4000) (r : List UInt8) : textM (some (strB s ++ r)) = (s, some r) := by
  have h1 := bytesD_back (most := 4000) (b := s.data.toList) r (by rw [str_len]; exact h) (by rw [str_len]; omega)
  show ((⟨(getM [] (bytesD 4000) (some (strB s ++ r))).1.toArray⟩ : ByteArray), (getM [] (bytesD 4000) (some (strB s ++ r))).2) = _
  simp only [getM, strB]
  rw [h1]
theorem ent_back {e : Ent} (hn : e.name.size ≤ 4000) (h0 : 0 ≤ e.k) (h1 : e.k < 256) (hid : IdOk e.id) (r : List UInt8) : entM (some (entB e ++ r)) = (canE e, some r) := by
  have e1 : entB e ++ r = strB e.name ++ (toB (IntKind.u8.wrap e.k) :: (tipL e.id ++ r)) := by simp [entB]
  rw [e1, entM, text_back hn]
  dsimp only
  rw [one_back]
  dsimp only
  rw [id_back hid, toB_wrap h0 h1]
  rfl
theorem sevL_back {α : Type} {f : Option (List UInt8) → α × Option (List UInt8)} {enc : α → List UInt8} {can : α → α} : ∀ (l : List α) (r : List UInt8), (∀ x ∈ l, ∀ r, f (some (enc x ++ r)) = (can x, some r)) → sevL f l.length (some (l.flatMap enc ++ r)) = (l.map can, some r)
  | [], r, _ => by simp [sevL]
  | x :: l, r, h => by
    have h1 := h x (by simp) (l.flatMap enc ++ r)
    have h2 := sevL_back l r fun y hy => h y (by simp [hy])
    rw [List.flatMap_cons, List.append_assoc, List.length_cons]
    simp only [sevL]
    rw [h1]
    dsimp only
    rw [h2]
    rfl
theorem sevM_back {α : Type} {f : Option (List UInt8) → α × Option (List UInt8)} {enc : α → List UInt8} {can : α → α} {m : Nat} (l : List α) (r : List UInt8) (hl : l.length ≤ m) (hm : m ≤ 1000) (h : ∀ x ∈ l, ∀ r, f (some (enc x ++ r)) = (can x, some r)) : sevM f m (some (lebL l.length ++ (l.flatMap enc ++ r))) = (l.map can, some r) := by
  have h1 := numD_leb (n := l.length) (most := m) (l.flatMap enc ++ r) (by omega) hl
  rw [sevM]
  simp only [getM]
  rw [h1]
  exact sevL_back l r h
theorem idZ_can {t : Nat → Int} (h : idZ t = true) : canI t = fun _ => 0 := funext fun i => by
  unfold canI
  split
  · rename_i hi; exact sameN_iff.1 h i hi
  · rfl
theorem tree_names {l : List Ent} (h : treeB l = true) {e : Ent} (he : e ∈ l) : e.name.size ≤ 64 ∧ (e.k = 1 ∨ e.k = 2) := by
  simp only [treeB, Bool.and_eq_true, List.all_eq_true, List.mem_range] at h
  obtain ⟨i, hi, rfl⟩ := List.getElem_of_mem he
  have h1 := h.2 i hi
  have e1 := gt_some hi
  rw [List.getElem?_eq_getElem hi] at e1
  rw [entAt, ← Option.some.inj e1] at h1
  simp only [nameB, Bool.and_eq_true, Bool.or_eq_true, decide_eq_true_eq] at h1
  exact ⟨h1.1.1.1.2, h1.1.2⟩
theorem len0 {α : Type} {l : List α} (h : (!decide (0 < (l.length : Int))) = true) : l = [] := by
  simp only [Bool.not_eq_true', decide_eq_false_iff_not] at h
  exact List.length_eq_zero_iff.1 (by omega)
theorem size0 {s : ByteArray} (h : (!decide (0 < (s.size : Int))) = true) : s = ⟨#[]⟩ := by
  simp only [Bool.not_eq_true', decide_eq_false_iff_not] at h
  have h1 : s.data.toList.length = 0 := by rw [str_len]; omega
  have h2 := List.length_eq_zero_iff.1 h1
  rw [← ba_toList s, h2]
theorem read_back {x : Ob} (hok : obOkB x = true) (hw : ObOk x) : readO (some (obB x)) = (canOb x, some []) := by
  have hk : x.k = 1 ∨ x.k = 2 ∨ x.k = 3 ∨ x.k = 4 := by
    by_cases h1 : x.k = 1
    · exact .inl h1
    by_cases h2 : x.k = 2
    · exact .inr (.inl h2)
    by_cases h3 : x.k = 3
    · exact .inr (.inr (.inl h3))
    by_cases h4 : x.k = 4
    · exact .inr (.inr (.inr h4))
    · rw [chk0 h1 h2 h3 h4] at hok; cases hok
  have h1 : oneM (some (obB x)) = (x.k, some (wB x)) := by
    show oneM (some (toB (IntKind.u8.wrap x.k) :: wB x)) = _
    rw [one_back, toB_wrap (by omega) (by omega)]
  unfold readO
  rw [h1]
  dsimp only
  rcases hk with hk | hk | hk | hk
  · have hc := hok
    rw [chk1 hk] at hc
    simp only [Bool.and_eq_true, Bool.not_eq_true', Bool.or_eq_false_iff, Bool.not_eq_false'] at hc
    obtain ⟨c1, c2, ⟨c3, c4⟩, c5, c6, c7⟩ := hc
    have c1 := of_decide_eq_true c1
    have c6 := of_decide_eq_true c6
    rw [if_pos hk]
    have hb := bytesD_back (most := 1024) (b := x.data) [] (by omega) (by omega)
    rw [List.append_nil] at hb
    rw [show wB x = lebL x.data.length ++ x.data by rw [wB, if_pos hk]]
    simp only [getM]
    rw [hb]
    dsimp only
    simp only [canOb, len0 (by rw [c2]; rfl : (!decide (0 < (x.ents.length : Int))) = true), len0 (by rw [c3]; rfl : (!decide (0 < (x.pars.length : Int))) = true), size0 (by rw [c5]; rfl : (!decide (0 < (x.m.size : Int))) = true), idZ_can c4, idZ_can c7, c6, List.map_nil]
  · have hc := hok
    rw [chk2 hk] at hc
    simp only [Bool.and_eq_true, Bool.not_eq_true', Bool.or_eq_false_iff, Bool.not_eq_false'] at hc
    obtain ⟨c1, c2, ⟨c3, c4⟩, c5, c6, c7⟩ := hc
    have c6 := of_decide_eq_true c6
    rw [if_neg (by omega), if_pos hk]
    have hl : x.ents.length ≤ 32 := by
      have c0 := c1
      rw [treeB, Bool.and_eq_true] at c0
      exact of_decide_eq_true c0.1
    have hb := sevM_back (f := entM) (enc := entB) (can := canE) (m := 32) x.ents [] hl (by omega) fun e he r => ent_back (by have := (tree_names c1 he).1; omega) (by have := (tree_names c1 he).2; omega) (by have := (tree_names c1 he).2; omega) (hw.en e he).id r
    rw [List.append_nil] at hb
    rw [show wB x = lebL x.ents.length ++ x.ents.flatMap entB by rw [wB, if_neg (by omega), if_pos hk]; rfl, hb]
    simp only [canOb, len0 (by rw [c2]; rfl : (!decide (0 < (x.data.length : Int))) = true), len0 (by rw [c3]; rfl : (!decide (0 < (x.pars.length : Int))) = true), size0 (by rw [c5]; rfl : (!decide (0 < (x.m.size : Int))) = true), idZ_can c4, idZ_can c7, c6, List.map_nil]
  · have hc := hok
    rw [chk3 hk] at hc
    simp only [Bool.and_eq_true, Bool.not_eq_true', Bool.or_eq_false_iff, Bool.not_eq_false'] at hc
    obtain ⟨c1, c2, c3, c4, c6, c7⟩ := hc
    have c2 := of_decide_eq_true c2
    have c6 := of_decide_eq_true c6
    rw [if_neg (by omega), if_neg (by omega), if_pos hk]
    have hl : x.pars.length ≤ 4 := by
      have c0 := c1
      rw [parsB, Bool.and_eq_true] at c0
      exact of_decide_eq_true c0.1
    have hb := sevM_back (f := idM) (enc := tipL) (can := canI) (m := 4) x.pars (strB x.m) hl (by omega) fun e he r => id_back (hw.pk e he) r
    have e1 : wB x = tipL x.t ++ (lebL x.pars.length ++ (x.pars.flatMap tipL ++ strB x.m)) := by
      rw [wB, if_neg (by omega), if_neg (by omega), if_pos hk]; simp [parsW]
    have hm := text_back (s := x.m) (by omega) []
    rw [List.append_nil] at hm
    rw [e1, id_back hw.t]
    dsimp only
    rw [hb]
    dsimp only
    rw [hm]
    simp only [canOb, len0 (by rw [c3]; rfl : (!decide (0 < (x.data.length : Int))) = true), len0 (by rw [c4]; rfl : (!decide (0 < (x.ents.length : Int))) = true), idZ_can c7, c6, List.map_nil]
  · have hc := hok
    rw [chk4 hk] at hc
    simp only [Bool.and_eq_true, Bool.not_eq_true', Bool.or_eq_false_iff, Bool.not_eq_false'] at hc
    obtain ⟨c1, c2, c3, c4, c5, c6, c7⟩ := hc
    have c1 := of_decide_eq_true c1
    have c2 := of_decide_eq_true c2
    have c3 := of_decide_eq_true c3
    rw [if_neg (by omega), if_neg (by omega), if_neg (by omega), if_pos hk]
    have e1 : wB x = toB (IntKind.u8.wrap x.tg.k) :: (tipL x.tg.id ++ strB x.m) := by
      rw [wB, if_neg (by omega), if_neg (by omega), if_neg (by omega)]; simp
    have hm := text_back (s := x.m) (by omega) []
    rw [List.append_nil] at hm
    rw [e1, one_back, toB_wrap (by omega) (by omega)]
    dsimp only
    rw [id_back hw.g]
    dsimp only
    rw [hm]
    simp only [canOb, len0 (by rw [c4]; rfl : (!decide (0 < (x.data.length : Int))) = true), len0 (by rw [c5]; rfl : (!decide (0 < (x.ents.length : Int))) = true), len0 (by rw [c6]; rfl : (!decide (0 < (x.pars.length : Int))) = true), idZ_can c7, List.map_nil]
theorem sameG_symm {α : Type} {f : α → α → Bool} (hf : ∀ x y, f x y = f y x) : ∀ xs ys : List α, sameGL f xs ys = sameGL f ys xs
  | [], [] => rfl
  | [], _ :: _ => rfl
  | _ :: _, [] => rfl
  | x :: xs, y :: ys => by rw [sameGL, sameGL, hf x y, sameG_symm hf xs ys]
theorem sameN_symm (n : Nat) (f g : Nat → Int) : sameN n f g = sameN n g f := by
  cases h : sameN n g f with
  | true => exact sameN_iff.2 fun i hi => (sameN_iff.1 h i hi).symm
  | false =>
    cases h2 : sameN n f g with
    | true => rw [sameN_iff.2 fun i hi => (sameN_iff.1 h2 i hi).symm] at h; cases h
    | false => rfl
theorem same_lnk_symm (x y : Lnk) : same_lnk x y = same_lnk y x := by
  simp only [same_lnk, sameN_symm 32 x.id y.id, eq_comm (a := x.k)]
theorem same_ent_symm (x y : Ent) : same_ent x y = same_ent y x := by
  simp only [same_ent, sameN_symm 32 x.id y.id, eq_comm (a := x.k), eq_comm (a := x.name)]
theorem obSame_symm (a b : Ob) : obSame a b = obSame b a := by
  simp only [obSame, sameIG_eq, sameG_symm same_ent_symm a.ents b.ents, sameG_symm (sameN_symm 32) a.pars b.pars, sameN_symm 32 a.t b.t, same_lnk_symm a.tg b.tg, eq_comm (a := a.k), eq_comm (a := a.data), eq_comm (a := a.m)]
structure Alike (a b : Ob) : Prop where
  k : a.k = b.k
  d : a.data = b.data
  e : sameGL same_ent a.ents b.ents = true
  t : sameN 32 a.t b.t = true
  p : sameGL (sameN 32) a.pars b.pars = true
  gk : a.tg.k = b.tg.k
  gi : sameN 32 a.tg.id b.tg.id = true
  m : a.m = b.m
theorem alike_iff {a b : Ob} : obSame a b = true ↔ Alike a b := by
  simp only [obSame, sameIG_eq, same_lnk, Bool.and_eq_true, decide_eq_true_eq]
  constructor
  · rintro ⟨h1, h2, h3, h4, h5, ⟨h6, h7, -⟩, h8⟩
    exact ⟨h1, h2, h3, h4, h5, h6, h7, h8⟩
  · rintro ⟨h1, h2, h3, h4, h5, h6, h7, h8⟩
    exact ⟨h1, h2, h3, h4, h5, ⟨h6, h7, trivial⟩, h8⟩
theorem sameN_tr {n : Nat} {f g h : Nat → Int} (h1 : sameN n f g = true) (h2 : sameN n g h = true) : sameN n f h = true := sameN_iff.2 fun i hi => (sameN_iff.1 h1 i hi).trans (sameN_iff.1 h2 i hi)
theorem ents_parts {e f : Ent} (h : same_ent e f = true) : e.name = f.name ∧ e.k = f.k ∧ sameN 32 e.id f.id = true := by
  simp only [same_ent, Bool.and_eq_true, decide_eq_true_eq] at h
  exact ⟨h.1, h.2.1, h.2.2.1⟩
theorem Alike.symm {a b : Ob} (h : Alike a b) : Alike b a := alike_iff.1 ((obSame_symm b a).trans (alike_iff.2 h))
theorem sameG_tr {α : Type} {f : α → α → Bool} (hf : ∀ x y z, f x y = true → f y z = true → f x z = true) : ∀ {xs ys zs : List α}, sameGL f xs ys = true → sameGL f ys zs = true → sameGL f xs zs = true
  | [], [], [], _, _ => rfl
  | [], [], _ :: _, _, h => by cases h
  | [], _ :: _, _, h, _ => by cases h
  | _ :: _, [], _, h, _ => by cases h
  | _ :: _, _ :: _, [], _, h => by cases h
  | x :: xs, y :: ys, z :: zs, h1, h2 => by
    rw [sameGL, Bool.and_eq_true] at h1 h2 ⊢
    exact ⟨hf _ _ _ h1.1 h2.1, sameG_tr hf h1.2 h2.2⟩
theorem same_ent_tr {x y z : Ent} (h1 : same_ent x y = true) (h2 : same_ent y z = true) : same_ent x z = true := by
  obtain ⟨a1, a2, a3⟩ := ents_parts h1
  obtain ⟨b1, b2, b3⟩ := ents_parts h2
  simp [same_ent, a1, b1, a2, b2, sameN_tr a3 b3]
theorem Alike.trans {a b c : Ob} (h : Alike a b) (g : Alike b c) : Alike a c :=
  ⟨h.k.trans g.k, h.d.trans g.d, sameG_tr (f := same_ent) (fun _ _ _ => same_ent_tr) h.e g.e, sameN_tr h.t g.t, sameG_tr (f := sameN 32) (fun _ _ _ => sameN_tr) h.p g.p, h.gk.trans g.gk, sameN_tr h.gi g.gi, h.m.trans g.m⟩
def kindM (b : List UInt8) : Int := match parseM b with
  | some x => x.k
  | none => 0
theorem kindM_some {b : List UInt8} {x : Ob} (h : parseM b = some x) : kindM b = x.k := by rw [kindM, h]
theorem kindM_none {b : List UInt8} (h : parseM b = none) : kindM b = 0 := by rw [kindM, h]
def idO (x : Ob) : Nat → Int := if obOkB x then shaF (obB x) else fun _ => 0
theorem lebL_1 {n : Nat} (h : n < 128) : (lebL n).length = 1 := by rw [lebL_small h]; rfl
theorem lebL_2 {n : Nat} (h : n < 16384) : (lebL n).length ≤ 2 := lebL_len 1 n (by omega)
theorem ents_4000 : ∀ {l : List Ent}, (∀ e ∈ l, e.name.size ≤ 64) → (entsB l).length ≤ 98 * l.length
  | [], _ => Nat.le_refl _
  | e :: l, h => by
    have h1 := ents_4000 (l := l) fun x hx => h x (List.mem_cons_of_mem _ hx)
    have h2 := h e List.mem_cons_self
    show (entB e ++ entsB l).length ≤ _
    rw [List.length_append, entB, strB, List.length_append, List.length_append, List.length_append, str_len, lebL_1 (by omega), tipL_len]
    simp only [List.length_cons, List.length_nil]
    omega
theorem obB_4000 {x : Ob} (hok : obOkB x = true) : (obB x).length ≤ 4000 := by
  have hlen : (obB x).length = 1 + (wB x).length := by rw [obB, List.length_append]; rfl
  rw [hlen]
  by_cases h1 : x.k = 1
  · rw [chk1 h1] at hok
    simp only [Bool.and_eq_true] at hok
    have c1 := of_decide_eq_true hok.1
    rw [wB, if_pos h1, List.length_append]
    have := lebL_2 (n := x.data.length) (by omega)
    omega
  by_cases h2 : x.k = 2
  · rw [chk2 h2] at hok
    simp only [Bool.and_eq_true] at hok
    have c1 := hok.1
    have c0 := c1
    rw [treeB, Bool.and_eq_true] at c0
    have c2 := of_decide_eq_true c0.1
    have := ents_4000 fun e he => (tree_names c1 he).1
    rw [wB, if_neg h1, if_pos h2, List.length_append, lebL_1 (by omega)]
    omega
  by_cases h3 : x.k = 3
  · rw [chk3 h3] at hok
    simp only [Bool.and_eq_true] at hok
    have c1 := hok.1
    have c4 := of_decide_eq_true hok.2.1
    rw [parsB, Bool.and_eq_true] at c1
    have c2 := of_decide_eq_true c1.1
    have := lebL_2 (n := x.m.size) (by omega)
    rw [wB, if_neg h1, if_neg h2, if_pos h3, List.length_append, List.length_append, List.length_append, tipL_len, parsW_len, strB, List.length_append, str_len, lebL_1 (by omega)]
    omega
  by_cases h4 : x.k = 4
  · rw [chk4 h4] at hok
    simp only [Bool.and_eq_true] at hok
    have c4 := of_decide_eq_true hok.2.2.1
    have := lebL_2 (n := x.m.size) (by omega)
    rw [wB, if_neg h1, if_neg h2, if_neg h3, List.length_append, List.length_append, tipL_len, strB, List.length_append, str_len]
    simp only [List.length_cons, List.length_nil]
    omega
  · rw [chk0 h1 h2 h3 h4] at hok; cases hok

end Go.Proofs.YtmjmaloapafnlaaGreatDoor

namespace Go.Proofs.YtmjmaloapafnlaaGreatDoor
open Tryz
open Go Go.Mv
set_option maxRecDepth 8000
theorem c_obKind (bv : Value) (b : List UInt8) (HX : Mem) (w : World) (hbb : Rdb HX bv b) (hlb : b.length ≤ 1000000) (hH : Hp HX w) : Calls Tryz.prog 25 #[bv] w (Ret w [] fun v H1 => v = .int .i64 (kindM b) ∧ H1 = []) := by
 refine fn_enter (args := [_]) func25 rfl ntmps25 rfl hH (sq (pl (qa rfl (n0 (sq (pl (qm rfl (cG rfl call30 (fun w hw => c_parse bv b HX w hbb.s hlb hw.s) ?_))))))))
 rintro v14 H15 (⟨x1, st5, st8, st11, hpm2, hox3, hbo6, hbo9, hbo12, rfl, rfl⟩ | ⟨hpm2, rfl, rfl⟩) hX16
 ·have hRD7 := hbo6.rdx (u := 5) byteC_len; have hRD10 := hbo9.rdx (u := 113) entC_len; have hRD13 := hbo12.rdx (u := 36) idC_len; have hk1x1 := hox3.d; have hk2x1 := hox3.e; have hk3x1 := hox3.p; have hk4x1 := hox3.m; refine TE_sp ((bldMx 5 byteC x1.data st5) ++ ((bldMx 113 entC x1.ents st8) ++ ((bldMx 36 idC x1.pars st11) ++ HX))) (fun a => by simp -failIfUnchanged <;> omega) ?_
  refine qm rfl (qe rfl (qe rfl (TE_allocC (objV (⟨0, [], [], (fun _ => 0), [], (⟨0, (fun _ => 0)⟩ : Lnk), ⟨#[]⟩⟩ : Ob) (.slice none 0 0) (.slice none 0 0) (.slice none 0 0)).cells rfl zeroValue48 rfl trivial rfl fun b3 hb3 => (TE_putCW 0 _ _ ((b3, .cells (objV x1 (bldVx x1.data st5) (bldVx x1.ents st8) (bldVx x1.pars st11)).cells 48 (0, 0)) :: ((bldMx 5 byteC x1.data st5) ++ ((bldMx 113 entC x1.ents st8) ++ ((bldMx 36 idC x1.pars st11) ++ HX)))) rfl sizeOf48 trivial rfl rfl rfl (objV_one _ _ _ _ (bvx_one _ _) (bvx_one _ _) (bvx_one _ _)) rfl rfl rfl rfl (.inl hb3) (qa rfl (n0 (sq (plG [] ((b3, .cells (objV x1 (bldVx x1.data st5) (bldVx x1.ents st8) (bldVx x1.pars st11)).cells 48 (0, 0)) :: ((bldMx 5 byteC x1.data st5) ++ ((bldMx 113 entC x1.ents st8) ++ (bldMx 36 idC x1.pars st11)))) (qq rfl (RD.fieldAddr (o := 0) runUnderlying48 rfl rfl sizeOf3 rfl) ?_)))))))))
  exact ql rfl (RD.load (i := 0) (v := .int .i64 x1.k) isAgg3 rfl rfl rfl) (qa rfl (n0 (rt (pn_doneS [] rfl rfl ⟨(congrArg (Value.int .i64) (kindM_some hpm2).symm), rfl⟩ (fun _ => Nat.zero_le _) (fun _ he => nomatch he)))))
 ·refine qm rfl (qe rfl (qe rfl (TE_allocC (objV (⟨0, [], [], (fun _ => 0), [], (⟨0, (fun _ => 0)⟩ : Lnk), ⟨#[]⟩⟩ : Ob) (.slice none 0 0) (.slice none 0 0) (.slice none 0 0)).cells rfl zeroValue48 rfl trivial rfl fun b3 hb3 => (TE_putCW 0 _ _ ((b3, .cells (objV (⟨0, [], [], (fun _ => 0), [], (⟨0, (fun _ => 0)⟩ : Lnk), ⟨#[]⟩⟩ : Ob) (.slice none 0 0) (.slice none 0 0) (.slice none 0 0)).cells 48 (0, 0)) :: HX) rfl sizeOf48 trivial rfl rfl rfl (objV_one _ _ _ _ rfl rfl rfl) rfl rfl rfl rfl (.inl hb3) (qa rfl (n0 (sq (plG [] [(b3, .cells (objV (⟨0, [], [], (fun _ => 0), [], (⟨0, (fun _ => 0)⟩ : Lnk), ⟨#[]⟩⟩ : Ob) (.slice none 0 0) (.slice none 0 0) (.slice none 0 0)).cells 48 (0, 0))] (qq rfl (RD.fieldAddr (o := 0) runUnderlying48 rfl rfl sizeOf3 rfl) ?_)))))))))
  exact ql rfl (RD.load (i := 0) (v := .int .i64 0) isAgg3 rfl rfl rfl) (qa rfl (n0 (rt (pn_doneS [] rfl rfl ⟨(congrArg (Value.int .i64) (kindM_none hpm2).symm), rfl⟩ (fun _ => Nat.zero_le _) (fun _ he => nomatch he)))))
theorem c_obID (x : Ob) (xd : Value) (xe : Value) (xp : Value) (HX : Mem) (w : World) (hbxd : Rdb ((0, .cells (wfV 8 (s8f shaB)).cells 130 (0, 0)) :: (1, .cells (wfV 64 (gtf shaK)).cells 257 (0, 0)) :: HX) xd x.data) (hbxe : Rdx 34 (entC) ((0, .cells (wfV 8 (s8f shaB)).cells 130 (0, 0)) :: (1, .cells (wfV 64 (gtf shaK)).cells 257 (0, 0)) :: HX) xe x.ents) (hbxp : Rdx 32 (idC) ((0, .cells (wfV 8 (s8f shaB)).cells 130 (0, 0)) :: (1, .cells (wfV 64 (gtf shaK)).cells 257 (0, 0)) :: HX) xp x.pars) (hox : ObOk x) (hH : Hp ((0, .cells (wfV 8 (s8f shaB)).cells 130 (0, 0)) :: (1, .cells (wfV 64 (gtf shaK)).cells 257 (0, 0)) :: HX) w) : Calls Tryz.prog 32 #[objV x xd xe xp] w (Ret w [] fun v H1 => v = .tuple #[idV (idO x), .int .i64 (err (obOkB x) 70)] ∧ H1 = []) := by
 have hw1 := hox.d; have hw2 := hox.e; have hw3 := hox.p; have hw4 := hox.m; have hwe := hox.en
 refine fn_enter (args := [_]) func32 rfl ntmps32 rfl hH (sq (pl (TE_boxC (objV x xd xe xp).cells rfl rfl rfl trivial rfl fun b1 hb1 => (TE_allocC (idV (fun _ => 0)).cells rfl zeroValue36 rfl trivial rfl fun b2 hb2 => (qa rfl (n0 (sq (pl (ql rfl (RD.loadA (i := 1) isAgg48 sizeOf48 rfl rfl (Nat.le_of_ble_eq_true rfl) (obj_all _ _ _ _)) ?_)))))))))
 refine cG rfl call28 (fun w hw => c_obEncode x xd xe xp ((0, .cells (wfV 8 (s8f shaB)).cells 130 (0, 0)) :: (1, .cells (wfV 64 (gtf shaK)).cells 257 (0, 0)) :: HX) w hbxd.s hbxe.s hbxp.s hox hw.s) ?_
 rintro v7 H8 (⟨hok1, st2, hbo3, rfl, rfl⟩ | ⟨hok6, rfl, rfl⟩) hX9
 ·have hRD5 := hbo3.rdx (u := 5) byteC_len; refine TE_sp ((b2, .cells (idV (fun _ => 0)).cells 36 (0, 0)) :: (b1, .cells (objV x xd xe xp).cells 48 (0, 0)) :: (0, .cells (wfV 8 (s8f shaB)).cells 130 (0, 0)) :: (1, .cells (wfV 64 (gtf shaK)).cells 257 (0, 0)) :: ((bldMx 5 byteC (obB x) st2) ++ HX)) (fun a => by simp -failIfUnchanged <;> omega) ?_
  refine qm rfl (qe rfl (qe rfl (qa rfl (qa rfl (n0 (sq (sq (plG [] ((b2, .cells (idV (fun _ => 0)).cells 36 (0, 0)) :: (0, .cells (wfV 8 (s8f shaB)).cells 130 (0, 0)) :: (1, .cells (wfV 64 (gtf shaK)).cells 257 (0, 0)) :: (bldMx 5 byteC (obB x) st2)) (qm rfl ?_)))))))))
  refine qq rfl (RD.as (v := .bool false) (RD.neq rfl rfl) rfl) (n0 (pn_condF rfl (sk (sq (pl (qm rfl (TE_buildSlice (cells := #[bldVx (obB x) st2]) rfl runUnderlying30 sizeOf32 zeroValue32 rfl rfl rfl (by obtain ⟨a0, c0, e0⟩ := (hRD5).shape; rw [e0]; kernel_rfl) trivial rfl fun b16 hb16 => (cG rfl call21 (fun w hw => c_hashOf b16 (bldVx (obB x) st2) (obB x) (bldMx 5 byteC (obB x) st2) w ((Rdb.of_x hRD5).mono sb) (by have h9 := obB_4000 hok1; omega) hw.s) ?_))))))))
  rintro v10 H11 ⟨rfl, rfl⟩ -
  exact TE_putCW 1 _ _ ((b16, .cells #[bldVx (obB x) st2] 32 (0, 0)) :: (b2, .cells (idV (shaF (obB x))).cells 36 (0, 0)) :: (0, .cells (wfV 8 (s8f shaB)).cells 130 (0, 0)) :: (1, .cells (wfV 64 (gtf shaK)).cells 257 (0, 0)) :: (bldMx 5 byteC (obB x) st2)) rfl sizeOf36 trivial rfl rfl rfl rfl rfl rfl rfl rfl (.inl hb2) (qa rfl (n0 (rt (pn_doneF rfl ⟨idV (shaF (obB x)), _, b2, 0, rfl, rfl, load_agg (i := 1) isAgg36 sizeOf36 rfl (Nat.le_of_ble_eq_true rfl) (id_all _), ⟨_, _, rfl, rfl, rfl⟩⟩ ⟨(by rw [idO, hok1]; rfl), rfl⟩ (fun _ h => h.sp (fun _ => Nat.zero_le _)) (fun _ he => nomatch he)))))
 ·refine qm rfl (qe rfl (qe rfl (qa rfl (qa rfl (n0 (sq (sq (plG [] [(b2, .cells (idV (fun _ => 0)).cells 36 (0, 0)), (0, .cells (wfV 8 (s8f shaB)).cells 130 (0, 0)), (1, .cells (wfV 64 (gtf shaK)).cells 257 (0, 0))] (qm rfl ?_)))))))))
  refine qq rfl (RD.as (v := .bool true) (RD.neq rfl rfl) rfl) (n0 (pn_condT rfl (sq (pl (qq rfl (RD.build (v := idV (fun _ => 0)) rfl (bd_id0)) (qm rfl (TE_putCW 0 _ _ [(b2, .cells (idV (fun _ => 0)).cells 36 (0, 0)), (0, .cells (wfV 8 (s8f shaB)).cells 130 (0, 0)), (1, .cells (wfV 64 (gtf shaK)).cells 257 (0, 0))] rfl sizeOf36 trivial rfl rfl rfl rfl rfl rfl rfl rfl (.inl hb2) (qa rfl (n0 ?_)))))))))
  exact rt (pn_doneF rfl ⟨idV (fun _ => 0), _, b2, 0, rfl, rfl, load_agg (i := 0) isAgg36 sizeOf36 rfl (Nat.le_of_ble_eq_true rfl) (id_all _), ⟨_, _, rfl, rfl, rfl⟩⟩ ⟨(by rw [idO, hok6]; rfl), rfl⟩ (fun _ h => h.sp (fun _ => Nat.zero_le _)) (fun _ he => nomatch he))
end Go.Proofs.YtmjmaloapafnlaaGreatDoor
