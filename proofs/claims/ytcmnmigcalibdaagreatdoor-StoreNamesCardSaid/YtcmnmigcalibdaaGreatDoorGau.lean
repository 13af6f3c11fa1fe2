import Derived.Test.YtcmnmigcalibdaaGreatDoorGat
namespace Go.Proofs.YtcmnmigcalibdaaGreatDoor
open Go.Proofs.Tryz
open Go Go.Mv
set_option maxRecDepth 8000
theorem shaAll_app : ∀ (n : Nat) (s : S8) (b t : List UInt8), b.length ≤ n → shaAll s (b ++ t) = shaAll (shaAll s b) (shaLeft b ++ t)
  | 0, s, b, t, h => by
    obtain rfl : b = [] := List.length_eq_zero_iff.1 (by omega)
    rw [shaAll_end (l := []) (by simp), shaLeft_end (l := []) (by simp)]
  | n + 1, s, b, t, h => by
    by_cases h64 : 64 ≤ b.length
    · rw [shaAll_go (l := b ++ t) (by rw [List.length_append]; omega), shaAll_go (l := b) h64, List.take_append_of_le_length h64, List.drop_append_of_le_length h64, shaAll_app n _ _ _ (by rw [List.length_drop]; omega), shaLeft_go h64]
    · rw [shaAll_end h64, shaLeft_end h64]
theorem shaF_two (b : List UInt8) : shaId (shaAll (shaAll shaB b) (shaLeft b ++ shaTail b.length)) = shaF b := by
  rw [shaF_eq, shaAll_app b.length _ b _ (Nat.le_refl _)]

theorem c_hashOf (pb : Nat) (bv : Value) (b : List UInt8) (HX : Mem) (w : World) (hbb : Rdb ((0, .cells (wfV 8 (s8f shaB)).cells 151 (0, 0)) :: (1, .cells (wfV 64 (gtf shaK)).cells 286 (0, 0)) :: HX) bv b) (hlb : b.length ≤ 1000000) (hH : Hp ((pb, .cells #[bv] 32 (0, 0)) :: (0, .cells (wfV 8 (s8f shaB)).cells 151 (0, 0)) :: (1, .cells (wfV 64 (gtf shaK)).cells 286 (0, 0)) :: HX) w) : Calls Tryz.prog 32 #[.slice (some ⟨pb, 0, none⟩) 1 1] w (Ret w [] fun v H1 => v = idV (shaF b) ∧ H1 = []) := by
 refine fn_enter (args := [_]) func32 rfl ntmps32 rfl hH (sq (pl (TE_allocC (idV (fun _ => 0)).cells rfl zeroValue35 rfl trivial rfl fun b2 hb2 => (n0 (sq (pl (TE_allocC #[.bool false, .int .u32 0, .int .u32 0, .int .u32 0, .int .u32 0, .int .u32 0, .int .u32 0, .int .u32 0, .int .u32 0, .slice none 0 0, .int .i64 0] rfl zeroValue153 rfl trivial rfl fun b3 hb3 => (n0 (sq ?_)))))))))
 refine sq (pn_plain [1] rfl (qm rfl (qq rfl (RD.as (v := .int .i64 1) (RD.len_slice runUnderlying24 rfl) rfl) (qm rfl (n0 (pn_block ?_))))))
 have hz0 : (#[.bool false, .int .u32 (((s8f default) 0).toNat : Int), .int .u32 (((s8f default) 1).toNat : Int), .int .u32 (((s8f default) 2).toNat : Int), .int .u32 (((s8f default) 3).toNat : Int), .int .u32 (((s8f default) 4).toNat : Int), .int .u32 (((s8f default) 5).toNat : Int), .int .u32 (((s8f default) 6).toNat : Int), .int .u32 (((s8f default) 7).toNat : Int), .slice none 0 0, .int .i64 0] : Array Value) = #[.bool false, .int .u32 0, .int .u32 0, .int .u32 0, .int .u32 0, .int .u32 0, .int .u32 0, .int .u32 0, .int .u32 0, .slice none 0 0, .int .i64 0] := by kernel_rfl
 refine pn_sp ((b3, .cells #[.bool false, .int .u32 (((s8f default) 0).toNat : Int), .int .u32 (((s8f default) 1).toNat : Int), .int .u32 (((s8f default) 2).toNat : Int), .int .u32 (((s8f default) 3).toNat : Int), .int .u32 (((s8f default) 4).toNat : Int), .int .u32 (((s8f default) 5).toNat : Int), .int .u32 (((s8f default) 6).toNat : Int), .int .u32 (((s8f default) 7).toNat : Int), .slice none 0 0, .int .i64 0] 153 (0, 0)) :: (b2, .cells (idV (fun _ => 0)).cells 35 (0, 0)) :: (pb, .cells #[bv] 32 (0, 0)) :: (0, .cells (wfV 8 (s8f shaB)).cells 151 (0, 0)) :: (1, .cells (wfV 64 (gtf shaK)).cells 286 (0, 0)) :: HX) (fun a => by rw [hz0]; exact Nat.le_refl _) (lpS (σ := Nat × Bool × S8 × Value × (List UInt8) × Nat × Mem) (fun q => [(2, .pointer (some ⟨b2, 0, none⟩)), (3, .pointer (some ⟨b3, 0, none⟩)), (6, .slice (some ⟨pb, 0, none⟩) 1 1), (7, .int .i64 1), (8, .int .i64 (q.1 : Int))]) (fun q => ((b3, .cells #[.bool q.2.1, .int .u32 (((s8f q.2.2.1) 0).toNat : Int), .int .u32 (((s8f q.2.2.1) 1).toNat : Int), .int .u32 (((s8f q.2.2.1) 2).toNat : Int), .int .u32 (((s8f q.2.2.1) 3).toNat : Int), .int .u32 (((s8f q.2.2.1) 4).toNat : Int), .int .u32 (((s8f q.2.2.1) 5).toNat : Int), .int .u32 (((s8f q.2.2.1) 6).toNat : Int), .int .u32 (((s8f q.2.2.1) 7).toNat : Int), q.2.2.2.1, .int .i64 (q.2.2.2.2.2.1 : Int)] 153 (0, 0)) :: (b2, .cells (idV (fun _ => 0)).cells 35 (0, 0)) :: (pb, .cells #[bv] 32 (0, 0)) :: (0, .cells (wfV 8 (s8f shaB)).cells 151 (0, 0)) :: (1, .cells (wfV 64 (gtf shaK)).cells 286 (0, 0)) :: (q.2.2.2.2.2.2 ++ HX))) (fun q => (q.1 ≤ 1) ∧ (Rdb q.2.2.2.2.2.2 q.2.2.2.1 q.2.2.2.2.1) ∧ (∀ e ∈ q.2.2.2.2.2.2, w.heap.size ≤ e.1 ∨ e.1 ∈ []) ∧ ((q.1 = 0 ∧ q.2.1 = false ∧ q.2.2.2.2.1 = [] ∧ q.2.2.2.2.2.1 = 0) ∨ (q.1 = 1 ∧ q.2.1 = true ∧ q.2.2.1 = shaAll shaB b ∧ q.2.2.2.2.1 = shaLeft b ∧ q.2.2.2.2.2.1 = b.length))) (fun q => 1 - q.1) (0, false, default, .slice none 0 0, [], 0, []) ⟨(by omega), (.inl ⟨⟨_, rfl⟩, rfl⟩), (by intro e he; cases he), (.inl ⟨rfl, rfl, rfl, rfl⟩)⟩ ⟨rfl, rfl, rfl, rfl, rfl, trivial⟩ ?_)
 rintro ⟨i, bg9, ss, lv9, ll9, mm, HL9⟩ ⟨hi, hb9, hX9, hst⟩
 dsimp only at hi hb9 hX9 hst ⊢
 refine sq (pl (qq rfl (RD.lss rfl rfl) (n0 (sq (pn_condD rfl (fun hc1 => ?_) (fun hc1 => ?_))))))
 ·have h0 := hst.resolve_right (fun h => by omega)
  have hlw : ll9.length ≤ 100 := (by rw [h0.2.2.1]; simp)
  have hmw := h0.2.2.2
  refine sk (sq (pn_block (sq (pl (qq rfl (RD.as (v := .pointer (some ⟨pb, 0, none⟩)) (RD.indexAddrS runUnderlying24 sizeOf32 rfl rfl (by omega) (by omega)) (by rw [h0.1]; rfl)) (ql rfl (RD.load (i := 2) isAgg32 rfl rfl rfl) (qa rfl (n0 (pl ?_)))))))))
  refine qm rfl (cM ((b3, .cells #[.bool bg9, .int .u32 (((s8f ss) 0).toNat : Int), .int .u32 (((s8f ss) 1).toNat : Int), .int .u32 (((s8f ss) 2).toNat : Int), .int .u32 (((s8f ss) 3).toNat : Int), .int .u32 (((s8f ss) 4).toNat : Int), .int .u32 (((s8f ss) 5).toNat : Int), .int .u32 (((s8f ss) 6).toNat : Int), .int .u32 (((s8f ss) 7).toNat : Int), lv9, .int .i64 (mm : Int)] 153 (0, 0)) :: HL9) ((b2, .cells (idV (fun _ => 0)).cells 35 (0, 0)) :: (pb, .cells #[bv] 32 (0, 0)) :: (0, .cells (wfV 8 (s8f shaB)).cells 151 (0, 0)) :: (1, .cells (wfV 64 (gtf shaK)).cells 286 (0, 0)) :: HX) rfl call88 (ownC (.inl hb3) hX9) (fun w hw => c_add shaB b3 bg9 ss lv9 ll9 mm HL9 bv b HX w hb9.s (by first | omega | (simp; omega)) (by first | omega | (simp; omega)) hbb.s hlb hw.s) ?_)
  rintro v6 H7 ⟨lv2, HN3, hr4, rfl, rfl⟩ hX5
  have hsllv2 := shaLeft_lt (ll9 ++ b)
  exact tsp ((b3, .cells #[.bool true, .int .u32 (((s8f (shaAll (bif bg9 then ss else shaB) (ll9 ++ b))) 0).toNat : Int), .int .u32 (((s8f (shaAll (bif bg9 then ss else shaB) (ll9 ++ b))) 1).toNat : Int), .int .u32 (((s8f (shaAll (bif bg9 then ss else shaB) (ll9 ++ b))) 2).toNat : Int), .int .u32 (((s8f (shaAll (bif bg9 then ss else shaB) (ll9 ++ b))) 3).toNat : Int), .int .u32 (((s8f (shaAll (bif bg9 then ss else shaB) (ll9 ++ b))) 4).toNat : Int), .int .u32 (((s8f (shaAll (bif bg9 then ss else shaB) (ll9 ++ b))) 5).toNat : Int), .int .u32 (((s8f (shaAll (bif bg9 then ss else shaB) (ll9 ++ b))) 6).toNat : Int), .int .u32 (((s8f (shaAll (bif bg9 then ss else shaB) (ll9 ++ b))) 7).toNat : Int), lv2, .int .i64 ((mm : Int) + (b.length : Int))] 153 (0, 0)) :: (b2, .cells (idV (fun _ => 0)).cells 35 (0, 0)) :: (pb, .cells #[bv] 32 (0, 0)) :: (0, .cells (wfV 8 (s8f shaB)).cells 151 (0, 0)) :: (1, .cells (wfV 64 (gtf shaK)).cells 286 (0, 0)) :: (HN3 ++ (HL9 ++ HX))) (n0 (pl (qq rfl (RD.addI rfl rfl (by omega) (by omega)) (qm rfl (n0 (agS ((i + 1), true, (shaAll (bif bg9 then ss else shaB) (ll9 ++ b)), lv2, (shaLeft (ll9 ++ b)), (mm + b.length), (HN3 ++ HL9)) ⟨(by omega), hr4, ((ownA (oL (oC hX5)) (oR (oC hX5)))), (.inr ⟨by dsimp only; omega, rfl, by rw [h0.2.1, h0.2.2.1]; rfl, by rw [h0.2.2.1]; rfl, by dsimp only; omega⟩)⟩ (by dsimp only; omega) ⟨rfl, rfl, rfl, rfl, rfl, trivial⟩))))))
 ·have h1 := hst.resolve_left (fun h => by omega)
  have hs64 := shaLeft_lt b
  have hlw : ll9.length ≤ 100 := (by rw [h1.2.2.2.1]; omega)
  have hmw := h1.2.2.2.2
  refine xt (sq (pl (cG rfl call89 (fun w hw => c_sum shaB b3 bg9 ss lv9 ll9 mm HL9 w hb9.s (by first | omega | (simp; omega)) (by first | omega | (simp; omega)) hw.s) ?_)))
  rintro v8 H9 ⟨rfl, rfl⟩ -
  refine TE_putCW 1 _ _ ((b3, .cells #[.bool bg9, .int .u32 (((s8f ss) 0).toNat : Int), .int .u32 (((s8f ss) 1).toNat : Int), .int .u32 (((s8f ss) 2).toNat : Int), .int .u32 (((s8f ss) 3).toNat : Int), .int .u32 (((s8f ss) 4).toNat : Int), .int .u32 (((s8f ss) 5).toNat : Int), .int .u32 (((s8f ss) 6).toNat : Int), .int .u32 (((s8f ss) 7).toNat : Int), lv9, .int .i64 (mm : Int)] 153 (0, 0)) :: (b2, .cells (idV (shaId (shaAll (bif bg9 then ss else shaB) (ll9 ++ shaTail mm)))).cells 35 (0, 0)) :: (pb, .cells #[bv] 32 (0, 0)) :: (0, .cells (wfV 8 (s8f shaB)).cells 151 (0, 0)) :: (1, .cells (wfV 64 (gtf shaK)).cells 286 (0, 0)) :: (HL9 ++ HX)) rfl sizeOf35 trivial rfl rfl rfl rfl rfl rfl rfl rfl (.inl hb2) (n0 (rt ?_))
  obtain ⟨-, rfl, rfl, rfl, rfl⟩ := h1
  exact pn_doneF rfl ⟨idV (shaId (shaAll (bif true then (shaAll shaB b) else shaB) ((shaLeft b) ++ shaTail b.length))), _, b2, 0, rfl, rfl, load_agg (i := 1) isAgg35 sizeOf35 rfl (Nat.le_of_ble_eq_true rfl) (id_all _), rfl⟩ ⟨(by rw [← shaF_two]; rfl), rfl⟩ (fun _ h => h.sp (fun _ => Nat.zero_le _)) (fun _ he => nomatch he)
end Go.Proofs.YtcmnmigcalibdaaGreatDoor

namespace Go.Proofs.YtcmnmigcalibdaaGreatDoor
open Go Go.Mv
set_option maxRecDepth 8000
theorem pair2 {α β : Type} {p : α × β} {b : β} (h : p.2 = b) : p = (p.1, b) := by rw [← h]
theorem getM_some {α : Type} {z x : α} {d : List UInt8 → Dr α} {o : Option (List UInt8)} {r : List UInt8} (h : getM z d o = (x, some r)) : ∃ ys, o = some ys ∧ d ys = .ok x r := by
  cases o with
  | none => simp [getM] at h
  | some ys =>
    refine ⟨ys, rfl, ?_⟩
    simp only [getM] at h
    split at h
    · rename_i hd; cases h; exact hd
    · cases h
theorem toB_byte (c : UInt8) : toB (IntKind.u8.wrap (c.toNat : Int)) = c := by
  have h := UInt8.toNat_lt c
  rw [wrap8, Nat.mod_eq_of_lt h, toB]
  simp
theorem one_some {o : Option (List UInt8)} {r : List UInt8} (h : (oneM o).2 = some r) : ∃ c : UInt8, o = some (c :: r) ∧ (oneM o).1 = (c.toNat : Int) := by
  obtain ⟨ys, rfl, hd⟩ := getM_some (pair2 (p := getM [] (rawD 1) o) h)
  obtain ⟨h1, h2⟩ := rawD_ok hd
  obtain ⟨c, hc⟩ := List.length_eq_one_iff.1 h2
  refine ⟨c, by rw [h1, hc]; rfl, ?_⟩
  show oneZ (getM [] (rawD 1) (some ys)).1 = _
  rw [hc]; rfl
theorem id_some {o : Option (List UInt8)} {r : List UInt8} (h : (idM o).2 = some r) : o = some (tipL (idM o).1 ++ r) := by
  obtain ⟨ys, rfl, hd⟩ := getM_some (pair2 (p := getM [] (rawD 32) o) h)
  obtain ⟨h1, h2⟩ := rawD_ok hd
  show _ = some (tipL (tipOf (getM [] (rawD 32) (some ys)).1) ++ r)
  rw [tipL_tipOf h2, ← h1]
theorem text_some {o : Option (List UInt8)} {r : List UInt8} (h : (textM o).2 = some r) : o = some (strB (textM o).1 ++ r) := by
  obtain ⟨ys, rfl, hd⟩ := getM_some (pair2 (p := getM [] (bytesD 4000) o) h)
  obtain ⟨h1, h2⟩ := bytesD_ok hd
  show some ys = some (strB ⟨(getM [] (bytesD 4000) (some ys)).1.toArray⟩ ++ r)
  rw [strB]
  simp only [List.toList_toArray]
  rw [← h1]
theorem ent_some {o : Option (List UInt8)} {r : List UInt8} (h : (entM o).2 = some r) : o = some (entB (entM o).1 ++ r) := by
  have h3 : (idM (oneM (textM o).2).2).2 = some r := h
  have e3 := id_some h3
  obtain ⟨c, e2, hk⟩ := one_some e3
  have e1 := text_some e2
  refine e1.trans (congrArg some ?_)
  show _ = entB ⟨(textM o).1, (oneM (textM o).2).1, (idM (oneM (textM o).2).2).1⟩ ++ r
  rw [entB]
  dsimp only
  rw [hk, toB_byte]
  simp
theorem sevL_some {α : Type} {f : Option (List UInt8) → α × Option (List UInt8)} {enc : α → List UInt8} (hf : ∀ o r, (f o).2 = some r → o = some (enc (f o).1 ++ r)) : ∀ (n : Nat) (o : Option (List UInt8)) (r : List UInt8), (sevL f n o).2 = some r → o = some ((sevL f n o).1.flatMap enc ++ r) ∧ (sevL f n o).1.length = n
  | 0, o, r, h => ⟨h, rfl⟩
  | n + 1, none, r, h => by cases h
  | n + 1, some ys, r, h => by
    obtain ⟨h1, h2⟩ := sevL_some hf n _ r h
    have h3 := hf _ _ h1
    refine ⟨?_, by simp only [sevL, List.length_cons, h2]⟩
    refine h3.trans (congrArg some ?_)
    simp only [sevL, List.flatMap_cons, List.append_assoc]
theorem sevM_some {α : Type} {f : Option (List UInt8) → α × Option (List UInt8)} {enc : α → List UInt8} (hf : ∀ o r, (f o).2 = some r → o = some (enc (f o).1 ++ r)) {m : Nat} {o : Option (List UInt8)} {r : List UInt8} (h : (sevM f m o).2 = some r) : o = some (lebL (sevM f m o).1.length ++ ((sevM f m o).1.flatMap enc ++ r)) := by
  obtain ⟨h1, h2⟩ := sevL_some hf _ _ r h
  obtain ⟨ys, rfl, hd⟩ := getM_some (pair2 (p := getM 0 (numD m) o) h1)
  have h3 := (numD_ok hd).1
  show some ys = some (lebL (sevL f _ _).1.length ++ _)
  rw [h2]
  exact congrArg some h3
theorem read_some {b : List UInt8} (h : (readO (some b)).2 = some []) (hok : obOkB (readO (some b)).1 = true) : obB (readO (some b)).1 = b := by
  unfold readO at h hok ⊢
  by_cases h1 : (oneM (some b)).1 = 1
  · rw [if_pos h1] at h ⊢
    obtain ⟨ys, e2, hd⟩ := getM_some (pair2 h)
    obtain ⟨c, e1, hk⟩ := one_some e2
    have hb := (bytesD_ok hd).1
    rw [List.append_nil] at hb
    refine Eq.trans ?_ (Option.some.inj e1).symm
    rw [obB, wB]
    dsimp only
    rw [if_pos h1, hk, toB_byte]
    exact congrArg (c :: ·) hb.symm
  rw [if_neg h1] at h hok ⊢
  by_cases h2 : (oneM (some b)).1 = 2
  · rw [if_pos h2] at h ⊢
    have e2 := sevM_some (enc := entB) (fun o r => ent_some) h
    obtain ⟨c, e1, hk⟩ := one_some e2
    refine Eq.trans ?_ (Option.some.inj e1).symm
    rw [obB, wB]
    dsimp only
    rw [if_neg h1, if_pos h2, hk, toB_byte, List.append_nil]; rfl
  rw [if_neg h2] at h hok ⊢
  by_cases h3 : (oneM (some b)).1 = 3
  · rw [if_pos h3] at h ⊢
    have e4 := text_some h
    have e3 := sevM_some (enc := tipL) (fun o r => id_some) e4
    have e2 := id_some e3
    obtain ⟨c, e1, hk⟩ := one_some e2
    refine Eq.trans ?_ (Option.some.inj e1).symm
    rw [obB, wB]
    dsimp only
    rw [if_neg h1, if_neg h2, if_pos h3, hk, toB_byte]
    simp only [List.append_nil, parsW, List.append_assoc]; rfl
  rw [if_neg h3] at h hok ⊢
  by_cases h4 : (oneM (some b)).1 = 4
  · rw [if_pos h4] at h ⊢
    have e4 := text_some h
    have e3 := id_some e4
    obtain ⟨d, e2, hj⟩ := one_some e3
    obtain ⟨c, e1, hk⟩ := one_some e2
    refine Eq.trans ?_ (Option.some.inj e1).symm
    rw [obB, wB]
    dsimp only
    rw [if_neg h1, if_neg h2, if_neg h3, hk, hj, toB_byte, toB_byte]
    simp only [List.append_nil, List.append_assoc]; rfl
  · rw [if_neg h4] at hok
    rw [chk0 h1 h2 h3 h4] at hok
    cases hok
theorem parse_some {b : List UInt8} {x : Ob} (h : parseM b = some x) : readO (some b) = (x, some []) ∧ obOkB x = true := by
  unfold parseM at h
  split at h
  · rename_i y hy
    split at h
    · rename_i hok; cases h; exact ⟨hy, hok⟩
    · cases h
  · cases h
theorem parse_back {b : List UInt8} {x : Ob} (h : parseM b = some x) : obB x = b ∧ obOkB x = true := by
  obtain ⟨h1, h2⟩ := parse_some h
  have h3 := read_some (b := b) (by rw [h1]) (by rw [h1]; exact h2)
  rw [h1] at h3
  exact ⟨h3, h2⟩
theorem sameG_symm {α : Type} {f : α → α → Bool} (hf : ∀ x y, f x y = f y x) : ∀ xs ys : List α, sameGL f xs ys = sameGL f ys xs
  | [], [] => rfl
  | [], _ :: _ => rfl
  | _ :: _, [] => rfl
  | x :: xs, y :: ys => by rw [sameGL, sameGL, hf x y, sameG_symm hf xs ys]
theorem sameN_symm (n : Nat) (f g : Nat → Int) : sameN n f g = sameN n g f := by
  cases h : sameN n g f with
  | true => exact sameN_iff.2 fun i hi => (sameN_iff.1 h i hi).symm
  | false =>
    cases h2 : sameN n f g with
    | true => rw [sameN_iff.2 fun i hi => (sameN_iff.1 h2 i hi).symm] at h; cases h
    | false => rfl
theorem same_lnk_symm (x y : Lnk) : same_lnk x y = same_lnk y x := by
  simp only [same_lnk, sameN_symm 32 x.id y.id, eq_comm (a := x.k)]
theorem same_ent_symm (x y : Ent) : same_ent x y = same_ent y x := by
  simp only [same_ent, sameN_symm 32 x.id y.id, eq_comm (a := x.k), eq_comm (a := x.name)]
theorem obSame_symm (a b : Ob) : obSame a b = obSame b a := by
  simp only [obSame, sameIG_eq, sameG_symm same_ent_symm a.ents b.ents, sameG_symm (sameN_symm 32) a.pars b.pars, sameN_symm 32 a.t b.t, same_lnk_symm a.tg b.tg, eq_comm (a := a.k), eq_comm (a := a.data), eq_comm (a := a.m)]
structure Alike (a b : Ob) : Prop where
  k : a.k = b.k
  d : a.data = b.data
  e : sameGL same_ent a.ents b.ents = true
  t : sameN 32 a.t b.t = true
  p : sameGL (sameN 32) a.pars b.pars = true
  gk : a.tg.k = b.tg.k
  gi : sameN 32 a.tg.id b.tg.id = true
  m : a.m = b.m
theorem alike_iff {a b : Ob} : obSame a b = true ↔ Alike a b := by
  simp only [obSame, sameIG_eq, same_lnk, Bool.and_eq_true, decide_eq_true_eq]
  constructor
  · rintro ⟨h1, h2, h3, h4, h5, ⟨h6, h7, -⟩, h8⟩
    exact ⟨h1, h2, h3, h4, h5, h6, h7, h8⟩
  · rintro ⟨h1, h2, h3, h4, h5, h6, h7, h8⟩
    exact ⟨h1, h2, h3, h4, h5, ⟨h6, h7, trivial⟩, h8⟩
theorem sameN_tr {n : Nat} {f g h : Nat → Int} (h1 : sameN n f g = true) (h2 : sameN n g h = true) : sameN n f h = true := sameN_iff.2 fun i hi => (sameN_iff.1 h1 i hi).trans (sameN_iff.1 h2 i hi)
theorem ents_parts {e f : Ent} (h : same_ent e f = true) : e.name = f.name ∧ e.k = f.k ∧ sameN 32 e.id f.id = true := by
  simp only [same_ent, Bool.and_eq_true, decide_eq_true_eq] at h
  exact ⟨h.1, h.2.1, h.2.2.1⟩
theorem Alike.symm {a b : Ob} (h : Alike a b) : Alike b a := alike_iff.1 ((obSame_symm b a).trans (alike_iff.2 h))
theorem sameG_tr {α : Type} {f : α → α → Bool} (hf : ∀ x y z, f x y = true → f y z = true → f x z = true) : ∀ {xs ys zs : List α}, sameGL f xs ys = true → sameGL f ys zs = true → sameGL f xs zs = true
  | [], [], [], _, _ => rfl
  | [], [], _ :: _, _, h => by cases h
  | [], _ :: _, _, h, _ => by cases h
  | _ :: _, [], _, h, _ => by cases h
  | _ :: _, _ :: _, [], _, h => by cases h
  | x :: xs, y :: ys, z :: zs, h1, h2 => by
    rw [sameGL, Bool.and_eq_true] at h1 h2 ⊢
    exact ⟨hf _ _ _ h1.1 h2.1, sameG_tr hf h1.2 h2.2⟩
theorem same_ent_tr {x y z : Ent} (h1 : same_ent x y = true) (h2 : same_ent y z = true) : same_ent x z = true := by
  obtain ⟨a1, a2, a3⟩ := ents_parts h1
  obtain ⟨b1, b2, b3⟩ := ents_parts h2
  simp [same_ent, a1, b1, a2, b2, sameN_tr a3 b3]
theorem Alike.trans {a b c : Ob} (h : Alike a b) (g : Alike b c) : Alike a c :=
  ⟨h.k.trans g.k, h.d.trans g.d, sameG_tr (f := same_ent) (fun _ _ _ => same_ent_tr) h.e g.e, sameN_tr h.t g.t, sameG_tr (f := sameN 32) (fun _ _ _ => sameN_tr) h.p g.p, h.gk.trans g.gk, sameN_tr h.gi g.gi, h.m.trans g.m⟩
def kindM (b : List UInt8) : Int := match parseM b with
  | some x => x.k
  | none => 0
theorem kindM_some {b : List UInt8} {x : Ob} (h : parseM b = some x) : kindM b = x.k := by rw [kindM, h]
theorem kindM_none {b : List UInt8} (h : parseM b = none) : kindM b = 0 := by rw [kindM, h]
end Go.Proofs.YtcmnmigcalibdaaGreatDoor

namespace Go.Proofs.YtcmnmigcalibdaaGreatDoor
open Go.Proofs.Tryz
open Go Go.Mv
set_option maxRecDepth 8000
theorem c_obKind (bv : Value) (b : List UInt8) (HX : Mem) (w : World) (hbb : Rdb HX bv b) (hlb : b.length ≤ 1000000) (hH : Hp HX w) : Calls Tryz.prog 20 #[bv] w (Ret w [] fun v H1 => v = .int .i64 (kindM b) ∧ H1 = []) := by
 refine fn_enter (args := [_]) func20 rfl ntmps20 rfl hH (sq (pl (qa rfl (n0 (sq (pl (qm rfl (cG rfl call65 (fun w hw => c_parse bv b HX w hbb.s hlb hw.s) ?_))))))))
 rintro v14 H15 (⟨x1, st5, st8, st11, hpm2, hox3, hbo6, hbo9, hbo12, rfl, rfl⟩ | ⟨hpm2, rfl, rfl⟩) hX16
 ·have hRD7 := hbo6.rdx (u := 5) byteC_len; have hRD10 := hbo9.rdx (u := 119) entC_len; have hRD13 := hbo12.rdx (u := 35) idC_len; have hk1x1 := hox3.d; have hk2x1 := hox3.e; have hk3x1 := hox3.p; have hk4x1 := hox3.m; refine TE_sp ((bldMx 5 byteC x1.data st5) ++ ((bldMx 119 entC x1.ents st8) ++ ((bldMx 35 idC x1.pars st11) ++ HX))) (fun a => by simp -failIfUnchanged <;> omega) ?_
  refine qm rfl (qe rfl (qe rfl (TE_allocC (objV (⟨0, [], [], (fun _ => 0), [], (⟨0, (fun _ => 0)⟩ : Lnk), ⟨#[]⟩⟩ : Ob) (.slice none 0 0) (.slice none 0 0) (.slice none 0 0)).cells rfl zeroValue62 rfl trivial rfl fun b3 hb3 => (TE_putCW 0 _ _ ((b3, .cells (objV x1 (bldVx x1.data st5) (bldVx x1.ents st8) (bldVx x1.pars st11)).cells 62 (0, 0)) :: ((bldMx 5 byteC x1.data st5) ++ ((bldMx 119 entC x1.ents st8) ++ ((bldMx 35 idC x1.pars st11) ++ HX)))) rfl sizeOf62 trivial rfl rfl rfl (objV_one _ _ _ _ (bvx_one _ _) (bvx_one _ _) (bvx_one _ _)) rfl rfl rfl rfl (.inl hb3) (qa rfl (n0 (sq (plG [] ((b3, .cells (objV x1 (bldVx x1.data st5) (bldVx x1.ents st8) (bldVx x1.pars st11)).cells 62 (0, 0)) :: ((bldMx 5 byteC x1.data st5) ++ ((bldMx 119 entC x1.ents st8) ++ (bldMx 35 idC x1.pars st11)))) (qq rfl (RD.fieldAddr (o := 0) runUnderlying62 rfl rfl sizeOf3 rfl) ?_)))))))))
  exact ql rfl (RD.load (i := 0) (v := .int .i64 x1.k) isAgg3 rfl rfl rfl) (qa rfl (n0 (rt (pn_doneS [] rfl rfl ⟨(congrArg (Value.int .i64) (kindM_some hpm2).symm), rfl⟩ (fun _ => Nat.zero_le _) (fun _ he => nomatch he)))))
 ·refine qm rfl (qe rfl (qe rfl (TE_allocC (objV (⟨0, [], [], (fun _ => 0), [], (⟨0, (fun _ => 0)⟩ : Lnk), ⟨#[]⟩⟩ : Ob) (.slice none 0 0) (.slice none 0 0) (.slice none 0 0)).cells rfl zeroValue62 rfl trivial rfl fun b3 hb3 => (TE_putCW 0 _ _ ((b3, .cells (objV (⟨0, [], [], (fun _ => 0), [], (⟨0, (fun _ => 0)⟩ : Lnk), ⟨#[]⟩⟩ : Ob) (.slice none 0 0) (.slice none 0 0) (.slice none 0 0)).cells 62 (0, 0)) :: HX) rfl sizeOf62 trivial rfl rfl rfl (objV_one _ _ _ _ rfl rfl rfl) rfl rfl rfl rfl (.inl hb3) (qa rfl (n0 (sq (plG [] [(b3, .cells (objV (⟨0, [], [], (fun _ => 0), [], (⟨0, (fun _ => 0)⟩ : Lnk), ⟨#[]⟩⟩ : Ob) (.slice none 0 0) (.slice none 0 0) (.slice none 0 0)).cells 62 (0, 0))] (qq rfl (RD.fieldAddr (o := 0) runUnderlying62 rfl rfl sizeOf3 rfl) ?_)))))))))
  exact ql rfl (RD.load (i := 0) (v := .int .i64 0) isAgg3 rfl rfl rfl) (qa rfl (n0 (rt (pn_doneS [] rfl rfl ⟨(congrArg (Value.int .i64) (kindM_none hpm2).symm), rfl⟩ (fun _ => Nat.zero_le _) (fun _ he => nomatch he)))))
end Go.Proofs.YtcmnmigcalibdaaGreatDoor

namespace Go.Proofs.YtcmnmigcalibdaaGreatDoor
open Go Go.Mv
set_option maxRecDepth 8000
/-- A reading went well, or it did not. -/
def RdU {α : Type} (d : Dr α) (z x : α) (e : Int) (r : List UInt8) : Prop := (e = 0 ∧ d = .ok x r) ∨ ((0 < e ∧ e ≤ 200) ∧ (∃ f, d = .err f) ∧ x = z)
theorem RdU.ok {α : Type} {d : Dr α} {z x : α} {e : Int} {r : List UInt8} (h : RdU d z x e r) (he : e = 0) : d = .ok x r := by
  rcases h with ⟨_, h⟩ | ⟨h, _⟩
  · exact h
  · omega
end Go.Proofs.YtcmnmigcalibdaaGreatDoor

namespace Go.Proofs.YtcmnmigcalibdaaGreatDoor
open Go Go.Mv
set_option maxRecDepth 8000
theorem p7_bad {b r : List UInt8} {x : Ob} (h : readO (some b) = (x, some r)) (hc : obOkB x = false ∨ ¬ obB x = b) : parseM b = none := by
  cases hp : parseM b with
  | none => rfl
  | some y =>
    exfalso
    obtain ⟨q1, q2⟩ := parse_back hp
    have : y = x := by
      unfold parseM at hp
      rw [h] at hp
      rcases r with _ | ⟨c, r⟩
      · simp only at hp
        split at hp
        · exact (Option.some.inj hp).symm
        · cases hp
      · simp at hp
    subst this
    rcases hc with hc | hc
    · rw [hc] at q2; cases q2
    · exact hc q1

/-- What read answers: the object that readO tells, or an error. -/
def RdR (b : List UInt8) (x : Ob) (e : Int) : Prop := (e = 0 ∧ ∃ r, readO (some b) = (x, some r)) ∨ ((0 < e ∧ e ≤ 1000) ∧ (readO (some b)).2 = none)
theorem RdR.not {b : List UInt8} {x : Ob} {e : Int} (h : RdR b x e) (he : e = 0) (hc : ¬ err (obOkB x) 70 = 0 ∨ ¬ obB x = b) : parseM b = none := by
  rcases h with ⟨_, r, h⟩ | ⟨h, _⟩
  · refine p7_bad h ?_
    rcases hc with hc | hc
    · exact .inl (err1 hc)
    · exact .inr hc
  · omega
/-- What bytes are read as; no object, if they are none. -/
def pX (b : List UInt8) : Ob := (parseM b).getD ⟨0, [], [], (fun _ => 0), [], (⟨0, (fun _ => 0)⟩ : Lnk), ⟨#[]⟩⟩
def pE (b : List UInt8) : Int := if (parseM b).isSome then 0 else 70
theorem pX_some {b : List UInt8} {x : Ob} (h : parseM b = some x) : pX b = x := by rw [pX, h]; rfl
theorem pE_some {b : List UInt8} {x : Ob} (h : parseM b = some x) : pE b = 0 := by rw [pE, h]; rfl
theorem pX_none {b : List UInt8} (h : parseM b = none) : pX b = ⟨0, [], [], (fun _ => 0), [], (⟨0, (fun _ => 0)⟩ : Lnk), ⟨#[]⟩⟩ := by rw [pX, h]; rfl
theorem pE_none {b : List UInt8} (h : parseM b = none) : pE b = 70 := by rw [pE, h]; rfl
theorem zob_ok : ObOk ⟨0, [], [], (fun _ => 0), [], (⟨0, (fun _ => 0)⟩ : Lnk), ⟨#[]⟩⟩ := ok_k0 0

theorem c_parseU (bv : Value) (b : List UInt8) (HX : Mem) (w : World) (hbb : Rdb HX bv b) (hlb : b.length ≤ 1000000) (hH : Hp HX w) : Calls Tryz.prog 65 #[bv] w (Ret w [] fun v H1 => ∃ s1 s2 s3, ObOk (pX b) ∧ BldOk 1 (byteC) (pX b).data s1 ∧ BldOk 34 (entC) (pX b).ents s2 ∧ BldOk 32 (idC) (pX b).pars s3 ∧ v = .tuple #[objV (pX b) (bldVx (pX b).data s1) (bldVx (pX b).ents s2) (bldVx (pX b).pars s3), .int .i64 (pE b)] ∧ H1 = (bldMx 5 (byteC) (pX b).data s1 ++ (bldMx 119 (entC) (pX b).ents s2 ++ bldMx 35 (idC) (pX b).pars s3))) := by
  refine (c_parse bv b HX w hbb hlb hH).mono ?_
  rintro e w' ⟨v, H1, rfl, ⟨x, s1, s2, s3, hp, hx, h1, h2, h3, rfl, rfl⟩ | ⟨hp, rfl, rfl⟩, hf⟩
  · have e1 := pX_some hp; have e2 := pE_some hp
    exact ⟨_, _, rfl, ⟨s1, s2, s3, by rw [e1]; exact hx, by rw [e1]; exact h1, by rw [e1]; exact h2, by rw [e1]; exact h3, by rw [e1, e2], by rw [e1]⟩, hf⟩
  · have e1 := pX_none hp; have e2 := pE_none hp
    exact ⟨_, _, rfl, ⟨none, none, none, by rw [e1]; exact zob_ok, by rw [e1]; exact BldOk.nil, by rw [e1]; exact BldOk.nil, by rw [e1]; exact BldOk.nil, by rw [e1, e2]; rfl, by rw [e1]; rfl⟩, hf⟩

end Go.Proofs.YtcmnmigcalibdaaGreatDoor

namespace Go.Proofs.YtcmnmigcalibdaaGreatDoor
open Go Go.Mv
set_option maxRecDepth 8000
structure En8 where
  raw : ByteArray
  k : Int
def en8V (x : En8) : Value := .agg #[.string x.raw, .int .i64 x.k]
instance : Inhabited En8 := ⟨⟨⟨#[]⟩, 0⟩⟩
theorem en8_all (x : En8) : Value.agg ((en8V x).cells.extract 0 (0 + 2)) = en8V x := by kernel_rfl
def same_en8 (x y : En8) : Bool := (decide (x.raw = y.raw) && (decide (x.k = y.k) && true))
theorem eqd_en8 (d : Nat) (x y : En8) (w : World) : (Op.equalIn (d + 4) 137 (.agg (en8V x).cells) (.agg (en8V y).cells)).run Tryz.prog w = .ok (same_en8 x y) w := by
  refine eqF_of (d := d + 3) Tryz.underlying137 Tryz.stoodInHeld137 ?_
  refine eqF_cons (a := .string x.raw) (b := .string y.raw) rfl (by simp [part, Tryz.isAgg9, en8V, Value.cells]) (by simp [part, Tryz.isAgg9, en8V, Value.cells]) (eqIn_string Tryz.underlying9) ?_
  refine eqF_cons (a := .int .i64 x.k) (b := .int .i64 y.k) (r := decide (x.k = y.k)) rfl (by simp [part, Tryz.isAgg3, en8V, Value.cells]) (by simp [part, Tryz.isAgg3, en8V, Value.cells]) (by rw [run_equalIn_int w (d + 2) _ .i64 .i64 _ _ Tryz.underlying3]; rfl) eqF_nil
theorem eq_en8 (x y : En8) (w : World) : (Op.equalIn 10000 137 (.agg (en8V x).cells) (.agg (en8V y).cells)).run Tryz.prog w = .ok (same_en8 x y) w := eqd_en8 9996 x y w

abbrev Key := {l : List UInt8 // l.length = 32}
def keyV (k : Key) : Value := idV (tipOf k.1)
def kOf (f : Nat → Int) : Key := ⟨tipL f, tipL_len f⟩
theorem idV_cg {f g : Nat → Int} (h : ∀ i, i < 32 → f i = g i) : idV f = idV g := by
  have := sameN_iff.2 h
  simp only [idV]
  rw [h 0 (by decide), h 1 (by decide), h 2 (by decide), h 3 (by decide), h 4 (by decide), h 5 (by decide), h 6 (by decide), h 7 (by decide), h 8 (by decide), h 9 (by decide), h 10 (by decide), h 11 (by decide), h 12 (by decide), h 13 (by decide), h 14 (by decide), h 15 (by decide), h 16 (by decide), h 17 (by decide), h 18 (by decide), h 19 (by decide), h 20 (by decide), h 21 (by decide), h 22 (by decide), h 23 (by decide), h 24 (by decide), h 25 (by decide), h 26 (by decide), h 27 (by decide), h 28 (by decide), h 29 (by decide), h 30 (by decide), h 31 (by decide)]
theorem keyV_kOf {f : Nat → Int} (h : IdOk f) : keyV (kOf f) = idV f := idV_cg fun _ hi => tipOf_tipL h hi
theorem tipOf_same {a b : List UInt8} (ha : a.length = 32) (hb : b.length = 32) : sameN 32 (tipOf a) (tipOf b) = decide (a = b) := by
  by_cases h : a = b
  · subst h; rw [sameN_self]; simp
  · rw [decide_eq_false h]
    cases hs : sameN 32 (tipOf a) (tipOf b) with
    | false => rfl
    | true =>
      refine absurd (List.ext_getElem? fun i => ?_) h
      by_cases hi : i < 32
      · have h1 := sameN_iff.1 hs i hi
        simp only [tipOf] at h1
        rw [List.getD_eq_getElem?_getD, List.getD_eq_getElem?_getD, List.getElem?_eq_getElem (by omega), List.getElem?_eq_getElem (by omega)] at h1
        rw [List.getElem?_eq_getElem (by omega), List.getElem?_eq_getElem (by omega)]
        congr 1
        simp only [Option.getD_some] at h1
        exact UInt8.toNat_inj.1 (by omega)
      · rw [List.getElem?_eq_none (by omega), List.getElem?_eq_none (by omega)]
theorem keyId : KeyQ Tryz.prog 35 keyV where
  eq a b w := by
    have h := eq_id (tipOf a.1) (tipOf b.1) w
    rw [tipOf_same a.2 b.2] at h
    have e : decide (a.1 = b.1) = decide (a = b) := decide_eq_decide.2 Subtype.ext_iff.symm
    rw [← e]; exact h
  chk e a w := by
    cases e <;> kernel_rfl
  far d a b := by cases d <;> rfl
  bits a := by simp [keyV, idV, Instr.sameBits]
  und := ⟨_, Tryz.underlying35⟩
def z8 : En8 := ⟨⟨#[]⟩, 0⟩
structure St8 where
  q : Int
  sz : Int
  l : List (ME Key En8)
  c : Nat
def x8 (b : List UInt8) : En8 := ⟨⟨b.toArray⟩, kindM b⟩
def k8 (b : List UInt8) : Key := kOf (shaF b)
def get8 (m : St8) (k : Key) : En8 := (mget k m.l).getD z8
def has8 (m : St8) (k : Key) : Bool := (mget k m.l).isSome
structure StOk (m : St8) : Prop where
  ok : MOk m.l m.c
  s0 : 0 ≤ m.sz
  sq : m.sz ≤ m.q
  q : m.q ≤ 1073741824
  n : m.l.length ≤ 1000000
  r : ∀ e ∈ m.l, e.v.raw.size ≤ 1000000
/-- What Put leaves, its id, its error. -/
def put8 (m : St8) (b : List UInt8) : St8 × (Nat → Int) × Int :=
  if kindM b = 0 then (m, (fun _ => 0), 70)
  else if has8 m (k8 b) then (if same_en8 (get8 m (k8 b)) (x8 b) then (m, shaF b, 0) else (m, (fun _ => 0), 80))
  else if m.q - m.sz < b.length then (m, (fun _ => 0), 81)
  else (⟨m.q, m.sz + b.length, (mput (k8 b) (x8 b) m.l m.c).1, (mput (k8 b) (x8 b) m.l m.c).2⟩, shaF b, 0)
section
variable {m : St8} {b : List UInt8}
theorem put8_0 (h : kindM b = 0) : put8 m b = (m, (fun _ => 0), 70) := by rw [put8, if_pos h]
theorem put8_clash (h : ¬ kindM b = 0) (hh : has8 m (k8 b) = true) (hs : same_en8 (get8 m (k8 b)) (x8 b) = false) : put8 m b = (m, (fun _ => 0), 80) := by
  rw [put8, if_neg h, if_pos hh, hs]; rfl
theorem put8_is (h : ¬ kindM b = 0) (hh : has8 m (k8 b) = true) (hs : same_en8 (get8 m (k8 b)) (x8 b) = true) : put8 m b = (m, shaF b, 0) := by
  rw [put8, if_neg h, if_pos hh, if_pos hs]
theorem put8_is' (h : ¬ kindM b = 0) (hc : has8 m (k8 b) = false ∨ same_en8 (get8 m (k8 b)) (x8 b) = true) (hh : has8 m (k8 b) = true) : put8 m b = (m, shaF b, 0) :=
  put8_is h hh (hc.resolve_left (by rw [hh]; simp))
theorem lk8 {o : Option En8} : (o.map en8V).getD (.agg #[.string ⟨#[]⟩, .int .i64 0]) = en8V (o.getD z8) := getD_map rfl
theorem put8_quota (h : ¬ kindM b = 0) (hh : has8 m (k8 b) = false) (hq : m.q - m.sz < b.length) : put8 m b = (m, (fun _ => 0), 81) := by
  rw [put8, if_neg h, if_neg (by simp [hh]), if_pos hq]
theorem put8_new (h : ¬ kindM b = 0) (hh : has8 m (k8 b) = false) (hq : ¬ m.q - m.sz < b.length) : put8 m b = (⟨m.q, m.sz + b.length, (mput (k8 b) (x8 b) m.l m.c).1, (mput (k8 b) (x8 b) m.l m.c).2⟩, shaF b, 0) := by
  rw [put8, if_neg h, if_neg (by simp [hh]), if_neg hq]
theorem mput_mem {κ β : Type} [DecidableEq κ] {x : κ} {v : β} {l : List (ME κ β)} {c : Nat} {e : ME κ β} (h : e ∈ (mput x v l c).1) : e.v = v ∧ e.k = x ∨ e ∈ l := by
  unfold mput at h
  split at h
  · rename_i i e0 hm
    obtain ⟨_, _, h3, h4⟩ := mpos_lt hm
    obtain ⟨j, hj⟩ := List.getElem?_of_mem h
    rw [mat_get] at hj
    split at hj
    · rename_i hij
      subst hij
      simp only [Nat.sub_zero] at h3
      rw [h3] at hj
      simp only [Option.map_some, Option.some.injEq] at hj
      subst hj
      exact .inl ⟨rfl, h4⟩
    · exact .inr (List.mem_of_getElem? hj)
  · rcases List.mem_append.1 h with h | h
    · exact .inr h
    · simp only [List.mem_cons, List.not_mem_nil, or_false] at h
      subst h; exact .inl ⟨rfl, rfl⟩
theorem x8_size (b : List UInt8) : (x8 b).raw.size = b.length := List.size_toArray
theorem mget_mem {κ β : Type} [DecidableEq κ] {x : κ} {l : List (ME κ β)} {v : β} (h : mget x l = some v) : ∃ e ∈ l, e.k = x ∧ e.v = v := by
  unfold mget at h
  cases hm : mpos x l 0 with
  | none => rw [hm] at h; cases h
  | some p =>
    obtain ⟨i, e⟩ := p
    rw [hm] at h
    obtain ⟨_, _, h3, h4⟩ := mpos_lt hm
    exact ⟨e, List.mem_of_getElem? h3, h4, Option.some.inj h⟩
theorem get8_r (h : StOk m) (k : Key) : (get8 m k).raw.size ≤ 1000000 := by
  unfold get8
  cases hm : mget k m.l with
  | none => exact Nat.zero_le _
  | some v => obtain ⟨e, he, _, rfl⟩ := mget_mem hm; exact h.r e he
theorem put8_ok (h : StOk m) (hn : m.l.length < 1000000) (hb : b.length ≤ 1000000) : StOk (put8 m b).1 := by
  unfold put8
  split
  · exact h
  split
  · split <;> exact h
  split
  · exact h
  · have h1 := h.s0; have h2 := h.sq; have h3 := h.q
    refine ⟨h.ok.put _ _, by show 0 ≤ m.sz + b.length; omega, by show m.sz + b.length ≤ m.q; omega, h3, ?_, fun e he => ?_⟩
    · show (mput (k8 b) (x8 b) m.l m.c).1.length ≤ 1000000
      rw [mput_len]; split <;> omega
    · rcases mput_mem he with ⟨h4, _⟩ | h4
      · rw [h4, x8_size]; exact hb
      · exact h.r e h4
end
end Go.Proofs.YtcmnmigcalibdaaGreatDoor
