import Derived.Test.YtloljpefdecmhaaGreatDoorGba
namespace Go.Proofs.YtloljpefdecmhaaGreatDoor
open Go Go.Mv
set_option maxRecDepth 8000
theorem shaAll_app : ∀ (n : Nat) (s : S8) (b t : List UInt8), b.length ≤ n → shaAll s (b ++ t) = shaAll (shaAll s b) (shaLeft b ++ t)
  | 0, s, b, t, h => by
    obtain rfl : b = [] := List.length_eq_zero_iff.1 (by omega)
    rw [shaAll_end (l := []) (by simp), shaLeft_end (l := []) (by simp)]
  | n + 1, s, b, t, h => by
    by_cases h64 : 64 ≤ b.length
    · rw [shaAll_go (l := b ++ t) (by rw [List.length_append]; omega), shaAll_go (l := b) h64, List.take_append_of_le_length h64, List.drop_append_of_le_length h64, shaAll_app n _ _ _ (by rw [List.length_drop]; omega), shaLeft_go h64]
    · rw [shaAll_end h64, shaLeft_end h64]
theorem shaF_two (b : List UInt8) : shaId (shaAll (shaAll shaB b) (shaLeft b ++ shaTail b.length)) = shaF b := by
  rw [shaF_eq, shaAll_app b.length _ b _ (Nat.le_refl _)]

theorem c_hashOf (pb : Nat) (bv : Value) (b : List UInt8) (HX : Mem) (w : World) (hbb : Rdb ((0, .cells (wfV 8 (s8f shaB)).cells 107 (0, 0)) :: (1, .cells (wfV 64 (gtf shaK)).cells 217 (0, 0)) :: HX) bv b) (hlb : b.length ≤ 1000000) (hH : Hp ((pb, .cells #[bv] 32 (0, 0)) :: (0, .cells (wfV 8 (s8f shaB)).cells 107 (0, 0)) :: (1, .cells (wfV 64 (gtf shaK)).cells 217 (0, 0)) :: HX) w) : Calls Tryz.prog 19 #[.slice (some ⟨pb, 0, none⟩) 1 1] w (Ret w [] fun v H1 => v = idV (shaF b) ∧ H1 = []) := by
  refine fn_enter (args := [_]) Tryz.func19 rfl Tryz.ntmps19 rfl hH ?_
  refine pn_seq ?_
  refine pn_plain [] rfl ?_
  refine TE_allocC (idV (fun _ => 0)).cells rfl Tryz.zeroValue36 rfl trivial rfl fun b2 hb2 => ?_
  refine TE_nil0 ?_
  refine pn_seq ?_
  refine pn_plain [] rfl ?_
  refine TE_allocC #[.bool false, .int .u32 0, .int .u32 0, .int .u32 0, .int .u32 0, .int .u32 0, .int .u32 0, .int .u32 0, .int .u32 0, .slice none 0 0, .int .i64 0] rfl Tryz.zeroValue109 rfl trivial rfl fun b3 hb3 => ?_
  refine TE_nil0 ?_
  refine pn_seq ?_
  refine pn_seq ?_
  refine pn_plain [1] rfl ?_
  refine TE_q rfl rfl (RD.move rfl) rfl ?_
  refine TE_q rfl rfl (RD.as (v := .int .i64 1) (RD.len_slice Tryz.runUnderlying30 rfl) rfl) rfl ?_
  refine TE_q rfl rfl (RD.move rfl) rfl ?_
  refine TE_nil0 ?_
  refine pn_block ?_
  have hz0 : (#[.bool false, .int .u32 (((s8f default) 0).toNat : Int), .int .u32 (((s8f default) 1).toNat : Int), .int .u32 (((s8f default) 2).toNat : Int), .int .u32 (((s8f default) 3).toNat : Int), .int .u32 (((s8f default) 4).toNat : Int), .int .u32 (((s8f default) 5).toNat : Int), .int .u32 (((s8f default) 6).toNat : Int), .int .u32 (((s8f default) 7).toNat : Int), .slice none 0 0, .int .i64 0] : Array Value) = #[.bool false, .int .u32 0, .int .u32 0, .int .u32 0, .int .u32 0, .int .u32 0, .int .u32 0, .int .u32 0, .int .u32 0, .slice none 0 0, .int .i64 0] := by kernel_rfl
  refine pn_sp ((b3, .cells #[.bool false, .int .u32 (((s8f default) 0).toNat : Int), .int .u32 (((s8f default) 1).toNat : Int), .int .u32 (((s8f default) 2).toNat : Int), .int .u32 (((s8f default) 3).toNat : Int), .int .u32 (((s8f default) 4).toNat : Int), .int .u32 (((s8f default) 5).toNat : Int), .int .u32 (((s8f default) 6).toNat : Int), .int .u32 (((s8f default) 7).toNat : Int), .slice none 0 0, .int .i64 0] 109 (0, 0)) :: (b2, .cells (idV (fun _ => 0)).cells 36 (0, 0)) :: (pb, .cells #[bv] 32 (0, 0)) :: (0, .cells (wfV 8 (s8f shaB)).cells 107 (0, 0)) :: (1, .cells (wfV 64 (gtf shaK)).cells 217 (0, 0)) :: HX) (fun a => by rw [hz0]; exact Nat.le_refl _) ?_
  refine pn_loopS (σ := Nat × Bool × S8 × Value × (List UInt8) × Nat × Mem) (fun q => [(2, .pointer (some ⟨b2, 0, none⟩)), (3, .pointer (some ⟨b3, 0, none⟩)), (6, .slice (some ⟨pb, 0, none⟩) 1 1), (7, .int .i64 1), (8, .int .i64 (q.1 : Int))]) (fun q => ((b3, .cells #[.bool q.2.1, .int .u32 (((s8f q.2.2.1) 0).toNat : Int), .int .u32 (((s8f q.2.2.1) 1).toNat : Int), .int .u32 (((s8f q.2.2.1) 2).toNat : Int), .int .u32 (((s8f q.2.2.1) 3).toNat : Int), .int .u32 (((s8f q.2.2.1) 4).toNat : Int), .int .u32 (((s8f q.2.2.1) 5).toNat : Int), .int .u32 (((s8f q.2.2.1) 6).toNat : Int), .int .u32 (((s8f q.2.2.1) 7).toNat : Int), q.2.2.2.1, .int .i64 (q.2.2.2.2.2.1 : Int)] 109 (0, 0)) :: (b2, .cells (idV (fun _ => 0)).cells 36 (0, 0)) :: (pb, .cells #[bv] 32 (0, 0)) :: (0, .cells (wfV 8 (s8f shaB)).cells 107 (0, 0)) :: (1, .cells (wfV 64 (gtf shaK)).cells 217 (0, 0)) :: (q.2.2.2.2.2.2 ++ HX))) (fun q => (q.1 ≤ 1) ∧ (Rdb q.2.2.2.2.2.2 q.2.2.2.1 q.2.2.2.2.1) ∧ (∀ e ∈ q.2.2.2.2.2.2, w.heap.size ≤ e.1 ∨ e.1 ∈ []) ∧ ((q.1 = 0 ∧ q.2.1 = false ∧ q.2.2.2.2.1 = [] ∧ q.2.2.2.2.2.1 = 0) ∨ (q.1 = 1 ∧ q.2.1 = true ∧ q.2.2.1 = shaAll shaB b ∧ q.2.2.2.2.1 = shaLeft b ∧ q.2.2.2.2.2.1 = b.length))) (fun q => 1 - q.1) (0, false, default, .slice none 0 0, [], 0, []) ⟨(by omega), (.inl ⟨rfl, rfl⟩), (by intro e he; cases he), (.inl ⟨rfl, rfl, rfl, rfl⟩)⟩ ⟨rfl, rfl, rfl, rfl, rfl, trivial⟩ (fun a => by simp -failIfUnchanged <;> omega) ?_
  rintro ⟨i, bg9, ss, lv9, ll9, mm, HL9⟩ ⟨hi, hb9, hX9, hst⟩
  dsimp only at hi hb9 hX9 hst ⊢
  refine pn_seq ?_
  refine pn_plain [] rfl ?_
  refine TE_q rfl rfl (RD.lss rfl rfl) rfl ?_
  refine TE_nil0 ?_
  refine pn_seq ?_
  refine pn_condD rfl (fun hc1 => ?_) (fun hc1 => ?_)
  · have h0 := hst.resolve_right (fun h => by omega)
    have hlw : ll9.length ≤ 100 := (by rw [h0.2.2.1]; simp)
    have hmw := h0.2.2.2
    refine pn_skip ?_
    refine pn_seq ?_
    refine pn_block ?_
    refine pn_seq ?_
    refine pn_plain [] rfl ?_
    refine TE_q rfl rfl (RD.as (v := .pointer (some ⟨pb, 0, none⟩)) (RD.indexAddrS Tryz.runUnderlying30 Tryz.sizeOf32 rfl rfl (by omega) (by omega)) (by rw [h0.1]; rfl)) rfl ?_
    refine TE_l rfl rfl trivial rfl (RD.load (i := 2) Tryz.isAgg32 rfl rfl rfl) rfl ?_
    refine TE_q rfl rfl (RD.assign rfl) rfl ?_
    refine TE_nil0 ?_
    refine pn_plain [] rfl ?_
    refine TE_q rfl rfl (RD.move rfl) rfl ?_
    refine TE_callM _ ((b3, .cells #[.bool bg9, .int .u32 (((s8f ss) 0).toNat : Int), .int .u32 (((s8f ss) 1).toNat : Int), .int .u32 (((s8f ss) 2).toNat : Int), .int .u32 (((s8f ss) 3).toNat : Int), .int .u32 (((s8f ss) 4).toNat : Int), .int .u32 (((s8f ss) 5).toNat : Int), .int .u32 (((s8f ss) 6).toNat : Int), .int .u32 (((s8f ss) 7).toNat : Int), lv9, .int .i64 (mm : Int)] 109 (0, 0)) :: HL9) ((b2, .cells (idV (fun _ => 0)).cells 36 (0, 0)) :: (pb, .cells #[bv] 32 (0, 0)) :: (0, .cells (wfV 8 (s8f shaB)).cells 107 (0, 0)) :: (1, .cells (wfV 64 (gtf shaK)).cells 217 (0, 0)) :: HX) ((b3, .cells #[.bool bg9, .int .u32 (((s8f ss) 0).toNat : Int), .int .u32 (((s8f ss) 1).toNat : Int), .int .u32 (((s8f ss) 2).toNat : Int), .int .u32 (((s8f ss) 3).toNat : Int), .int .u32 (((s8f ss) 4).toNat : Int), .int .u32 (((s8f ss) 5).toNat : Int), .int .u32 (((s8f ss) 6).toNat : Int), .int .u32 (((s8f ss) 7).toNat : Int), lv9, .int .i64 (mm : Int)] 109 (0, 0)) :: (0, .cells (wfV 8 (s8f shaB)).cells 107 (0, 0)) :: (1, .cells (wfV 64 (gtf shaK)).cells 217 (0, 0)) :: (HL9 ++ HX)) rfl rfl trivial Tryz.call57 rfl rfl rfl (ownC (.inl hb3) hX9) (fun a => by simp -failIfUnchanged <;> omega) (fun w hw => c_add shaB b3 bg9 ss lv9 ll9 mm HL9 bv b HX w (hb9.mono (fun _ hw => hw.sp (fun a => by simp -failIfUnchanged <;> omega))) (by first | omega | (simp; omega)) (by first | omega | (simp; omega)) (hbb.mono (fun _ hw => hw.sp (fun a => by simp -failIfUnchanged <;> omega))) hlb (hw.sp (fun a => by simp -failIfUnchanged <;> omega))) (fun a => by simp -failIfUnchanged <;> omega) ?_
    rintro v6 H7 ⟨lv2, HN3, hr4, rfl, rfl⟩ hX5
    have hsllv2 := shaLeft_lt (ll9 ++ b)
    refine TE_sp ((b3, .cells #[.bool true, .int .u32 (((s8f (shaAll (bif bg9 then ss else shaB) (ll9 ++ b))) 0).toNat : Int), .int .u32 (((s8f (shaAll (bif bg9 then ss else shaB) (ll9 ++ b))) 1).toNat : Int), .int .u32 (((s8f (shaAll (bif bg9 then ss else shaB) (ll9 ++ b))) 2).toNat : Int), .int .u32 (((s8f (shaAll (bif bg9 then ss else shaB) (ll9 ++ b))) 3).toNat : Int), .int .u32 (((s8f (shaAll (bif bg9 then ss else shaB) (ll9 ++ b))) 4).toNat : Int), .int .u32 (((s8f (shaAll (bif bg9 then ss else shaB) (ll9 ++ b))) 5).toNat : Int), .int .u32 (((s8f (shaAll (bif bg9 then ss else shaB) (ll9 ++ b))) 6).toNat : Int), .int .u32 (((s8f (shaAll (bif bg9 then ss else shaB) (ll9 ++ b))) 7).toNat : Int), lv2, .int .i64 ((mm : Int) + (b.length : Int))] 109 (0, 0)) :: (b2, .cells (idV (fun _ => 0)).cells 36 (0, 0)) :: (pb, .cells #[bv] 32 (0, 0)) :: (0, .cells (wfV 8 (s8f shaB)).cells 107 (0, 0)) :: (1, .cells (wfV 64 (gtf shaK)).cells 217 (0, 0)) :: (HN3 ++ (HL9 ++ HX))) (fun a => by simp -failIfUnchanged <;> omega) ?_
    refine TE_nil0 ?_
    refine pn_plain [] rfl ?_
    refine TE_q rfl rfl (RD.addI rfl rfl (by omega) (by omega)) rfl ?_
    refine TE_q rfl rfl (RD.move rfl) rfl ?_
    refine TE_nil0 ?_
    exact pn_againS ((i + 1), true, (shaAll (bif bg9 then ss else shaB) (ll9 ++ b)), lv2, (shaLeft (ll9 ++ b)), (mm + b.length), (HN3 ++ HL9)) ⟨(by omega), hr4, ((ownA (fun e he => hX5 e (List.mem_cons_of_mem _ (List.mem_append_left _ he))) (fun e he => hX5 e (List.mem_cons_of_mem _ (List.mem_append_right _ he))))), (.inr ⟨by dsimp only; omega, rfl, by rw [h0.2.1, h0.2.2.1]; rfl, by rw [h0.2.2.1]; rfl, by dsimp only; omega⟩)⟩ (by dsimp only; omega) ⟨rfl, rfl, rfl, rfl, rfl, trivial⟩ (fun a => by simp -failIfUnchanged <;> omega)
  · have h1 := hst.resolve_left (fun h => by omega)
    have hs64 := shaLeft_lt b
    have hlw : ll9.length ≤ 100 := (by rw [h1.2.2.2.1]; omega)
    have hmw := h1.2.2.2.2
    refine pn_exit ?_
    refine pn_seq ?_
    refine pn_plain [] rfl ?_
    refine TE_callG _ ((b3, .cells #[.bool bg9, .int .u32 (((s8f ss) 0).toNat : Int), .int .u32 (((s8f ss) 1).toNat : Int), .int .u32 (((s8f ss) 2).toNat : Int), .int .u32 (((s8f ss) 3).toNat : Int), .int .u32 (((s8f ss) 4).toNat : Int), .int .u32 (((s8f ss) 5).toNat : Int), .int .u32 (((s8f ss) 6).toNat : Int), .int .u32 (((s8f ss) 7).toNat : Int), lv9, .int .i64 (mm : Int)] 109 (0, 0)) :: (0, .cells (wfV 8 (s8f shaB)).cells 107 (0, 0)) :: (1, .cells (wfV 64 (gtf shaK)).cells 217 (0, 0)) :: HL9) rfl rfl trivial Tryz.call58 rfl rfl rfl (fun w hw => c_sum shaB b3 bg9 ss lv9 ll9 mm HL9 w (hb9.mono (fun _ hw => hw.sp (fun a => by simp -failIfUnchanged <;> omega))) (by first | omega | (simp; omega)) (by first | omega | (simp; omega)) (hw.sp (fun a => by simp -failIfUnchanged <;> omega))) (fun a => by simp -failIfUnchanged <;> omega) ?_
    rintro v8 H9 ⟨rfl, rfl⟩ -
    refine TE_putCW 1 (idV (fun _ => 0)).cells (idV (shaId (shaAll (bif bg9 then ss else shaB) (ll9 ++ shaTail mm)))).cells ((b3, .cells #[.bool bg9, .int .u32 (((s8f ss) 0).toNat : Int), .int .u32 (((s8f ss) 1).toNat : Int), .int .u32 (((s8f ss) 2).toNat : Int), .int .u32 (((s8f ss) 3).toNat : Int), .int .u32 (((s8f ss) 4).toNat : Int), .int .u32 (((s8f ss) 5).toNat : Int), .int .u32 (((s8f ss) 6).toNat : Int), .int .u32 (((s8f ss) 7).toNat : Int), lv9, .int .i64 (mm : Int)] 109 (0, 0)) :: (b2, .cells (idV (shaId (shaAll (bif bg9 then ss else shaB) (ll9 ++ shaTail mm)))).cells 36 (0, 0)) :: (pb, .cells #[bv] 32 (0, 0)) :: (0, .cells (wfV 8 (s8f shaB)).cells 107 (0, 0)) :: (1, .cells (wfV 64 (gtf shaK)).cells 217 (0, 0)) :: (HL9 ++ HX)) rfl Tryz.sizeOf36 trivial rfl rfl rfl rfl rfl rfl rfl rfl (.inl hb2) ?_
    refine TE_nil0 ?_
    refine pn_ret ?_
    obtain ⟨-, rfl, rfl, rfl, rfl⟩ := h1
    exact pn_doneF rfl ⟨idV (shaId (shaAll (bif true then (shaAll shaB b) else shaB) ((shaLeft b) ++ shaTail b.length))), _, b2, 0, rfl, rfl, load_agg (i := 1) Tryz.isAgg36 Tryz.sizeOf36 rfl (Nat.le_of_ble_eq_true rfl) (id_all _), rfl⟩ ⟨(by rw [← shaF_two]; rfl), rfl⟩ (fun _ h => h.sp (fun _ => Nat.zero_le _)) (fun _ he => nomatch he)

end Go.Proofs.YtloljpefdecmhaaGreatDoor

namespace Go.Proofs.YtloljpefdecmhaaGreatDoor
open Go Go.Mv
set_option maxRecDepth 8000
theorem toB_wrap {k : Int} (h0 : 0 ≤ k) (h1 : k < 256) : ((toB (IntKind.u8.wrap k)).toNat : Int) = k := by
  obtain ⟨n, rfl⟩ := Int.eq_ofNat_of_zero_le h0
  rw [wrap8, toB, Nat.mod_eq_of_lt (by omega), Int.toNat_natCast, UInt8.toNat_ofNat_of_lt' (by show n < 256; omega)]
def canE (e : Ent) : Ent := ⟨e.name, e.k, canI e.id⟩
def canOb (x : Ob) : Ob := ⟨x.k, x.data, x.ents.map canE, canI x.t, x.pars.map canI, ⟨x.tg.k, canI x.tg.id⟩, x.m⟩
theorem one_back (c : UInt8) (r : List UInt8) : oneM (some (c :: r)) = ((c.toNat : Int), some r) := by
  have h := rawD_back [c] r
  show (oneZ (getM [] (rawD 1) (some ([c] ++ r))).1, (getM [] (rawD 1) (some ([c] ++ r))).2) = _
  simp only [getM]
  rw [show rawD 1 ([c] ++ r) = .ok [c] r from h]
  rfl
theorem tipOf_can {f : Nat → Int} (h : IdOk f) : tipOf (tipL f) = canI f := funext fun i => by
  by_cases hi : i < 32
  · rw [tipOf_tipL h hi, canI, if_pos hi]
  · rw [canI, if_neg hi, tipOf, List.getD_eq_getElem?_getD, List.getElem?_eq_none (by rw [tipL_len]; omega)]; rfl
theorem id_back {f : Nat → Int} (h : IdOk f) (r : List UInt8) : idM (some (tipL f ++ r)) = (canI f, some r) := by
  have h1 := rawD_back (tipL f) r
  rw [tipL_len] at h1
  show (tipOf (getM [] (rawD 32) (some (tipL f ++ r))).1, (getM [] (rawD 32) (some (tipL f ++ r))).2) = _
  simp only [getM]
  rw [h1]
  dsimp only
  rw [tipOf_can h]
theorem ba_toList (s : ByteArray) : (⟨s.data.toList.toArray⟩ : ByteArray) = s := by simp
theorem text_back {s : ByteArray} (h : s.size ≤ 4000) (r : List UInt8) : textM (some (strB s ++ r)) = (s, some r) := by
  have h1 := bytesD_back (most := 4000) (b := s.data.toList) r (by rw [str_len]; exact h) (by rw [str_len]; omega)
  show ((⟨(getM [] (bytesD 4000) (some (strB s ++ r))).1.toArray⟩ : ByteArray), (getM [] (bytesD 4000) (some (strB s ++ r))).2) = _
  simp only [getM, strB]
  rw [h1]
theorem ent_back {e : Ent} (hn : e.name.size ≤ 4000) (h0 : 0 ≤ e.k) (h1 : e.k < 256) (hid : IdOk e.id) (r : List UInt8) : entM (some (entB e ++ r)) = (canE e, some r) := by
  have e1 : entB e ++ r = strB e.name ++ (toB (IntKind.u8.wrap e.k) :: (tipL e.id ++ r)) := by simp [entB]
  rw [e1, entM, text_back hn]
  dsimp only
  rw [one_back]
  dsimp only
  rw [id_back hid, toB_wrap h0 h1]
  rfl
theorem sevL_back {α : Type} {f : Option (List UInt8) → α × Option (List UInt8)} {enc : α → List UInt8} {can : α → α} : ∀ (l : List α) (r : List UInt8), (∀ x ∈ l, ∀ r, f (some (enc x ++ r)) = (can x, some r)) → sevL f l.length (some (l.flatMap enc ++ r)) = (l.map can, some r)
  | [], r, _ => by simp [sevL]
  | x :: l, r, h => by
    have h1 := h x (by simp) (l.flatMap enc ++ r)
    have h2 := sevL_back l r fun y hy => h y (by simp [hy])
    rw [List.flatMap_cons, List.append_assoc, List.length_cons]
    simp only [sevL]
    rw [h1]
    dsimp only
    rw [h2]
    rfl
theorem sevM_back {α : Type} {f : Option (List UInt8) → α × Option (List UInt8)} {enc : α → List UInt8} {can : α → α} {m : Nat} (l : List α) (r : List UInt8) (hl : l.length ≤ m) (hm : m ≤ 1000) (h : ∀ x ∈ l, ∀ r, f (some (enc x ++ r)) = (can x, some r)) : sevM f m (some (lebL l.length ++ (l.flatMap enc ++ r))) = (l.map can, some r) := by
  have h1 := numD_leb (n := l.length) (most := m) (l.flatMap enc ++ r) (by omega) hl
  rw [sevM]
  simp only [getM]
  rw [h1]
  exact sevL_back l r h
theorem idZ_can {t : Nat → Int} (h : idZ t = true) : canI t = fun _ => 0 := funext fun i => by
  unfold canI
  split
  · rename_i hi; exact sameN_iff.1 h i hi
  · rfl
theorem tree_names {l : List Ent} (h : treeB l = true) {e : Ent} (he : e ∈ l) : e.name.size ≤ 64 ∧ (e.k = 1 ∨ e.k = 2) := by
  simp only [treeB, Bool.and_eq_true, List.all_eq_true, List.mem_range] at h
  obtain ⟨i, hi, rfl⟩ := List.getElem_of_mem he
  have h1 := h.2 i hi
  have e1 := gt_some hi
  rw [List.getElem?_eq_getElem hi] at e1
  rw [entAt, ← Option.some.inj e1] at h1
  simp only [nameB, Bool.and_eq_true, Bool.or_eq_true, decide_eq_true_eq] at h1
  exact ⟨h1.1.1.1.2, h1.1.2⟩
theorem len0 {α : Type} {l : List α} (h : (!decide (0 < (l.length : Int))) = true) : l = [] := by
  simp only [Bool.not_eq_true', decide_eq_false_iff_not] at h
  exact List.length_eq_zero_iff.1 (by omega)
theorem size0 {s : ByteArray} (h : (!decide (0 < (s.size : Int))) = true) : s = ⟨#[]⟩ := by
  simp only [Bool.not_eq_true', decide_eq_false_iff_not] at h
  have h1 : s.data.toList.length = 0 := by rw [str_len]; omega
  have h2 := List.length_eq_zero_iff.1 h1
  rw [← ba_toList s, h2]
theorem read_back {x : Ob} (hok : obOkB x = true) (hw : ObOk x) : readO (some (obB x)) = (canOb x, some []) := by
  have hk : x.k = 1 ∨ x.k = 2 ∨ x.k = 3 ∨ x.k = 4 := by
    by_cases h1 : x.k = 1
    · exact .inl h1
    by_cases h2 : x.k = 2
    · exact .inr (.inl h2)
    by_cases h3 : x.k = 3
    · exact .inr (.inr (.inl h3))
    by_cases h4 : x.k = 4
    · exact .inr (.inr (.inr h4))
    · rw [chk0 h1 h2 h3 h4] at hok; cases hok
  have h1 : oneM (some (obB x)) = (x.k, some (wB x)) := by
    show oneM (some (toB (IntKind.u8.wrap x.k) :: wB x)) = _
    rw [one_back, toB_wrap (by omega) (by omega)]
  unfold readO
  rw [h1]
  dsimp only
  rcases hk with hk | hk | hk | hk
  · have hc := hok
    rw [chk1 hk] at hc
    simp only [Bool.and_eq_true, Bool.not_eq_true', Bool.or_eq_false_iff, Bool.not_eq_false'] at hc
    obtain ⟨c1, c2, ⟨c3, c4⟩, c5, c6, c7⟩ := hc
    have c1 := of_decide_eq_true c1
    have c6 := of_decide_eq_true c6
    rw [if_pos hk]
    have hb := bytesD_back (most := 1024) (b := x.data) [] (by omega) (by omega)
    rw [List.append_nil] at hb
    rw [show wB x = lebL x.data.length ++ x.data by rw [wB, if_pos hk]]
    simp only [getM]
    rw [hb]
    dsimp only
    simp only [canOb, len0 (by rw [c2]; rfl : (!decide (0 < (x.ents.length : Int))) = true), len0 (by rw [c3]; rfl : (!decide (0 < (x.pars.length : Int))) = true), size0 (by rw [c5]; rfl : (!decide (0 < (x.m.size : Int))) = true), idZ_can c4, idZ_can c7, c6, List.map_nil]
  · have hc := hok
    rw [chk2 hk] at hc
    simp only [Bool.and_eq_true, Bool.not_eq_true', Bool.or_eq_false_iff, Bool.not_eq_false'] at hc
    obtain ⟨c1, c2, ⟨c3, c4⟩, c5, c6, c7⟩ := hc
    have c6 := of_decide_eq_true c6
    rw [if_neg (by omega), if_pos hk]
    have hl : x.ents.length ≤ 32 := by
      have c0 := c1
      rw [treeB, Bool.and_eq_true] at c0
      exact of_decide_eq_true c0.1
    have hb := sevM_back (f := entM) (enc := entB) (can := canE) (m := 32) x.ents [] hl (by omega) fun e he r => ent_back (by have := (tree_names c1 he).1; omega) (by have := (tree_names c1 he).2; omega) (by have := (tree_names c1 he).2; omega) (hw.en e he).id r
    rw [List.append_nil] at hb
    rw [show wB x = lebL x.ents.length ++ x.ents.flatMap entB by rw [wB, if_neg (by omega), if_pos hk]; rfl, hb]
    simp only [canOb, len0 (by rw [c2]; rfl : (!decide (0 < (x.data.length : Int))) = true), len0 (by rw [c3]; rfl : (!decide (0 < (x.pars.length : Int))) = true), size0 (by rw [c5]; rfl : (!decide (0 < (x.m.size : Int))) = true), idZ_can c4, idZ_can c7, c6, List.map_nil]
  · have hc := hok
    rw [chk3 hk] at hc
    simp only [Bool.and_eq_true, Bool.not_eq_true', Bool.or_eq_false_iff, Bool.not_eq_false'] at hc
    obtain ⟨c1, c2, c3, c4, c6, c7⟩ := hc
    have c2 := of_decide_eq_true c2
    have c6 := of_decide_eq_true c6
    rw [if_neg (by omega), if_neg (by omega), if_pos hk]
    have hl : x.pars.length ≤ 4 := by
      have c0 := c1
      rw [parsB, Bool.and_eq_true] at c0
      exact of_decide_eq_true c0.1
    have hb := sevM_back (f := idM) (enc := tipL) (can := canI) (m := 4) x.pars (strB x.m) hl (by omega) fun e he r => id_back (hw.pk e he) r
    have e1 : wB x = tipL x.t ++ (lebL x.pars.length ++ (x.pars.flatMap tipL ++ strB x.m)) := by
      rw [wB, if_neg (by omega), if_neg (by omega), if_pos hk]; simp [parsW]
    have hm := text_back (s := x.m) (by omega) []
    rw [List.append_nil] at hm
    rw [e1, id_back hw.t]
    dsimp only
    rw [hb]
    dsimp only
    rw [hm]
    simp only [canOb, len0 (by rw [c3]; rfl : (!decide (0 < (x.data.length : Int))) = true), len0 (by rw [c4]; rfl : (!decide (0 < (x.ents.length : Int))) = true), idZ_can c7, c6, List.map_nil]
  · have hc := hok
    rw [chk4 hk] at hc
    simp only [Bool.and_eq_true, Bool.not_eq_true', Bool.or_eq_false_iff, Bool.not_eq_false'] at hc
    obtain ⟨c1, c2, c3, c4, c5, c6, c7⟩ := hc
    have c1 := of_decide_eq_true c1
    have c2 := of_decide_eq_true c2
    have c3 := of_decide_eq_true c3
    rw [if_neg (by omega), if_neg (by omega), if_neg (by omega), if_pos hk]
    have e1 : wB x = toB (IntKind.u8.wrap x.tg.k) :: (tipL x.tg.id ++ strB x.m) := by
      rw [wB, if_neg (by omega), if_neg (by omega), if_neg (by omega)]; simp
    have hm := text_back (s := x.m) (by omega) []
    rw [List.append_nil] at hm
    rw [e1, one_back, toB_wrap (by omega) (by omega)]
    dsimp only
    rw [id_back hw.g]
    dsimp only
    rw [hm]
    simp only [canOb, len0 (by rw [c4]; rfl : (!decide (0 < (x.data.length : Int))) = true), len0 (by rw [c5]; rfl : (!decide (0 < (x.ents.length : Int))) = true), len0 (by rw [c6]; rfl : (!decide (0 < (x.pars.length : Int))) = true), idZ_can c7, List.map_nil]
theorem sameG_at {α : Type} [Inhabited α] {f : α → α → Bool} : ∀ {xs ys : List α}, sameGL f xs ys = true → xs.length = ys.length ∧ ∀ i, i < xs.length → f (gt xs i) (gt ys i) = true
  | [], [], _ => ⟨rfl, fun i h => absurd h (Nat.not_lt_zero _)⟩
  | [], _ :: _, h => by cases h
  | _ :: _, [], h => by cases h
  | x :: xs, y :: ys, h => by
    rw [sameGL, Bool.and_eq_true] at h
    obtain ⟨h1, h2⟩ := sameG_at h.2
    refine ⟨by simp [h1], fun i hi => ?_⟩
    cases i with
    | zero => exact h.1
    | succ i => exact h2 i (by simpa using hi)
theorem sameG_symm {α : Type} {f : α → α → Bool} (hf : ∀ x y, f x y = f y x) : ∀ xs ys : List α, sameGL f xs ys = sameGL f ys xs
  | [], [] => rfl
  | [], _ :: _ => rfl
  | _ :: _, [] => rfl
  | x :: xs, y :: ys => by rw [sameGL, sameGL, hf x y, sameG_symm hf xs ys]
theorem sameN_symm (n : Nat) (f g : Nat → Int) : sameN n f g = sameN n g f := by
  cases h : sameN n g f with
  | true => exact sameN_iff.2 fun i hi => (sameN_iff.1 h i hi).symm
  | false =>
    cases h2 : sameN n f g with
    | true => rw [sameN_iff.2 fun i hi => (sameN_iff.1 h2 i hi).symm] at h; cases h
    | false => rfl
theorem same_lnk_symm (x y : Lnk) : same_lnk x y = same_lnk y x := by
  simp only [same_lnk, sameN_symm 32 x.id y.id, eq_comm (a := x.k)]
theorem same_ent_symm (x y : Ent) : same_ent x y = same_ent y x := by
  simp only [same_ent, sameN_symm 32 x.id y.id, eq_comm (a := x.k), eq_comm (a := x.name)]
theorem obSame_symm (a b : Ob) : obSame a b = obSame b a := by
  simp only [obSame, sameIG_eq, sameG_symm same_ent_symm a.ents b.ents, sameG_symm (sameN_symm 32) a.pars b.pars, sameN_symm 32 a.t b.t, same_lnk_symm a.tg b.tg, eq_comm (a := a.k), eq_comm (a := a.data), eq_comm (a := a.m)]
structure Alike (a b : Ob) : Prop where
  k : a.k = b.k
  d : a.data = b.data
  e : sameGL same_ent a.ents b.ents = true
  t : sameN 32 a.t b.t = true
  p : sameGL (sameN 32) a.pars b.pars = true
  gk : a.tg.k = b.tg.k
  gi : sameN 32 a.tg.id b.tg.id = true
  m : a.m = b.m
theorem alike_iff {a b : Ob} : obSame a b = true ↔ Alike a b := by
  simp only [obSame, sameIG_eq, same_lnk, Bool.and_eq_true, decide_eq_true_eq]
  constructor
  · rintro ⟨h1, h2, h3, h4, h5, ⟨h6, h7, -⟩, h8⟩
    exact ⟨h1, h2, h3, h4, h5, h6, h7, h8⟩
  · rintro ⟨h1, h2, h3, h4, h5, h6, h7, h8⟩
    exact ⟨h1, h2, h3, h4, h5, ⟨h6, h7, trivial⟩, h8⟩
theorem sameN_tr {n : Nat} {f g h : Nat → Int} (h1 : sameN n f g = true) (h2 : sameN n g h = true) : sameN n f h = true := sameN_iff.2 fun i hi => (sameN_iff.1 h1 i hi).trans (sameN_iff.1 h2 i hi)
theorem sameN_cg {n : Nat} {f g f' g' : Nat → Int} (h1 : sameN n f f' = true) (h2 : sameN n g g' = true) : sameN n f g = sameN n f' g' := by
  cases h : sameN n f' g' with
  | true => exact sameN_tr (sameN_tr h1 h) (by rw [sameN_symm]; exact h2)
  | false =>
    cases h3 : sameN n f g with
    | true => rw [sameN_tr (sameN_tr (by rw [sameN_symm]; exact h1) h3) h2] at h; cases h
    | false => rfl
theorem tipL_cg {f g : Nat → Int} (h : sameN 32 f g = true) : tipL f = tipL g := by
  unfold tipL
  exact List.map_congr_left fun i hi => by rw [sameN_iff.1 h i (List.mem_range.1 hi)]
theorem ents_parts {e f : Ent} (h : same_ent e f = true) : e.name = f.name ∧ e.k = f.k ∧ sameN 32 e.id f.id = true := by
  simp only [same_ent, Bool.and_eq_true, decide_eq_true_eq] at h
  exact ⟨h.1, h.2.1, h.2.2.1⟩
theorem tree_cg {l l' : List Ent} (h : sameGL same_ent l l' = true) : treeB l = treeB l' := by
  obtain ⟨h1, h2⟩ := sameG_at h
  unfold treeB
  rw [h1]
  congr 1
  refine Bool.eq_iff_iff.2 ?_
  simp only [List.all_eq_true, List.mem_range]
  have hs : ∀ i, i < l'.length → entAt l i = entAt l' i := fun i hi => by
    obtain ⟨a1, a2, -⟩ := ents_parts (h2 i (by omega))
    obtain ⟨b1, -, -⟩ := ents_parts (h2 (i - 1) (by omega))
    simp only [entAt, a1, a2, b1]
  exact ⟨fun H i hi => (hs i hi) ▸ H i hi, fun H i hi => (hs i hi).symm ▸ H i hi⟩
theorem pars_cg {l l' : List (Nat → Int)} (h : sameGL (sameN 32) l l' = true) : parsB l = parsB l' := by
  obtain ⟨h1, h2⟩ := sameG_at h
  unfold parsB uniqB
  rw [h1]
  congr 1
  refine Bool.eq_iff_iff.2 ?_
  simp only [List.all_eq_true, List.mem_range]
  have hs : ∀ i k, i < l'.length → k < i → sameN 32 (gt l i) (gt l k) = sameN 32 (gt l' i) (gt l' k) := fun i k hi hk => sameN_cg (h2 i (by omega)) (h2 k (by omega))
  exact ⟨fun H i hi k hk => by rw [← hs i k hi hk]; exact H i hi k hk, fun H i hi k hk => by rw [hs i k hi hk]; exact H i hi k hk⟩
theorem ok_cg {a b : Ob} (h : Alike a b) : obOkB a = obOkB b := by
  have he := (sameG_at h.e).1
  have hp := (sameG_at h.p).1
  have ht : idZ a.t = idZ b.t := sameN_cg h.t (sameN_self _ _)
  have hg : idZ a.tg.id = idZ b.tg.id := sameN_cg h.gi (sameN_self _ _)
  by_cases h1 : a.k = 1
  · rw [chk1 h1, chk1 (h.k ▸ h1), h.d, he, hp, ht, hg, h.m, h.gk]
  by_cases h2 : a.k = 2
  · rw [chk2 h2, chk2 (h.k ▸ h2), h.d, tree_cg h.e, hp, ht, hg, h.m, h.gk]
  by_cases h3 : a.k = 3
  · rw [chk3 h3, chk3 (h.k ▸ h3), h.d, he, pars_cg h.p, hg, h.m, h.gk]
  by_cases h4 : a.k = 4
  · rw [chk4 h4, chk4 (h.k ▸ h4), h.d, he, hp, ht, h.m, h.gk]
  · have hk := h.k
    rw [chk0 h1 h2 h3 h4, chk0 (by omega) (by omega) (by omega) (by omega)]
theorem ents_cg : ∀ {l l' : List Ent}, sameGL same_ent l l' = true → entsB l = entsB l'
  | [], [], _ => rfl
  | [], _ :: _, h => by cases h
  | _ :: _, [], h => by cases h
  | x :: xs, y :: ys, h => by
    rw [sameGL, Bool.and_eq_true] at h
    obtain ⟨h1, h2, h3⟩ := ents_parts h.1
    show entB x ++ entsB xs = entB y ++ entsB ys
    rw [ents_cg h.2, entB, entB, h1, h2, tipL_cg h3]
theorem parsW_cg : ∀ {l l' : List (Nat → Int)}, sameGL (sameN 32) l l' = true → parsW l = parsW l'
  | [], [], _ => rfl
  | [], _ :: _, h => by cases h
  | _ :: _, [], h => by cases h
  | x :: xs, y :: ys, h => by
    rw [sameGL, Bool.and_eq_true] at h
    show tipL x ++ parsW xs = tipL y ++ parsW ys
    rw [parsW_cg h.2, tipL_cg h.1]
theorem obB_cg {a b : Ob} (h : Alike a b) : obB a = obB b := by
  have he := (sameG_at h.e).1
  have hp := (sameG_at h.p).1
  simp only [obB, wB, h.k, h.d, h.m, h.gk, he, hp, ents_cg h.e, parsW_cg h.p, tipL_cg h.t, tipL_cg h.gi]
theorem sameN_can (f : Nat → Int) : sameN 32 (canI f) f = true := sameN_iff.2 fun i hi => by rw [canI, if_pos hi]
theorem can_alike (x : Ob) : Alike (canOb x) x := by
  refine ⟨rfl, rfl, ?_, sameN_can _, ?_, rfl, sameN_can _, rfl⟩
  · show sameGL same_ent (x.ents.map canE) x.ents = true
    induction x.ents with
    | nil => rfl
    | cons e l ih =>
      rw [List.map_cons, sameGL, ih, Bool.and_true]
      simp [same_ent, canE, sameN_can]
  · show sameGL (sameN 32) (x.pars.map canI) x.pars = true
    induction x.pars with
    | nil => rfl
    | cons e l ih => rw [List.map_cons, sameGL, ih, Bool.and_true]; exact sameN_can _
theorem parse_enc {x : Ob} (hok : obOkB x = true) (hw : ObOk x) : parseM (obB x) = some (canOb x) := by
  unfold parseM
  rw [read_back hok hw]
  show (if obOkB (canOb x) = true then some (canOb x) else none) = _
  rw [if_pos ((ok_cg (can_alike x)).trans hok)]
theorem Alike.symm {a b : Ob} (h : Alike a b) : Alike b a := alike_iff.1 ((obSame_symm b a).trans (alike_iff.2 h))
theorem sameG_tr {α : Type} {f : α → α → Bool} (hf : ∀ x y z, f x y = true → f y z = true → f x z = true) : ∀ {xs ys zs : List α}, sameGL f xs ys = true → sameGL f ys zs = true → sameGL f xs zs = true
  | [], [], [], _, _ => rfl
  | [], [], _ :: _, _, h => by cases h
  | [], _ :: _, _, h, _ => by cases h
  | _ :: _, [], _, h, _ => by cases h
  | _ :: _, _ :: _, [], _, h => by cases h
  | x :: xs, y :: ys, z :: zs, h1, h2 => by
    rw [sameGL, Bool.and_eq_true] at h1 h2 ⊢
    exact ⟨hf _ _ _ h1.1 h2.1, sameG_tr hf h1.2 h2.2⟩
theorem same_ent_tr {x y z : Ent} (h1 : same_ent x y = true) (h2 : same_ent y z = true) : same_ent x z = true := by
  obtain ⟨a1, a2, a3⟩ := ents_parts h1
  obtain ⟨b1, b2, b3⟩ := ents_parts h2
  simp [same_ent, a1, b1, a2, b2, sameN_tr a3 b3]
theorem Alike.trans {a b c : Ob} (h : Alike a b) (g : Alike b c) : Alike a c :=
  ⟨h.k.trans g.k, h.d.trans g.d, sameG_tr (f := same_ent) (fun _ _ _ => same_ent_tr) h.e g.e, sameN_tr h.t g.t, sameG_tr (f := sameN 32) (fun _ _ _ => sameN_tr) h.p g.p, h.gk.trans g.gk, sameN_tr h.gi g.gi, h.m.trans g.m⟩
theorem alike_of_bytes {a b : Ob} (ha : obOkB a = true) (hb : obOkB b = true) (wa : ObOk a) (wb : ObOk b) (h : obB a = obB b) : Alike a b := by
  have h1 := parse_enc ha wa
  rw [h, parse_enc hb wb] at h1
  have h2 := Option.some.inj h1
  exact (can_alike a).symm.trans (h2 ▸ can_alike b)
def idO (x : Ob) : Nat → Int := if obOkB x then shaF (obB x) else fun _ => 0
theorem lebL_1 {n : Nat} (h : n < 128) : (lebL n).length = 1 := by rw [lebL_small h]; rfl
theorem lebL_2 {n : Nat} (h : n < 16384) : (lebL n).length ≤ 2 := lebL_len 1 n (by omega)
theorem ents_4000 : ∀ {l : List Ent}, (∀ e ∈ l, e.name.size ≤ 64) → (entsB l).length ≤ 98 * l.length
  | [], _ => Nat.le_refl _
  | e :: l, h => by
    have h1 := ents_4000 (l := l) fun x hx => h x (List.mem_cons_of_mem _ hx)
    have h2 := h e List.mem_cons_self
    show (entB e ++ entsB l).length ≤ _
    rw [List.length_append, entB, strB, List.length_append, List.length_append, List.length_append, str_len, lebL_1 (by omega), tipL_len]
    simp only [List.length_cons, List.length_nil]
    omega
theorem obB_4000 {x : Ob} (hok : obOkB x = true) : (obB x).length ≤ 4000 := by
  have hlen : (obB x).length = 1 + (wB x).length := by rw [obB, List.length_append]; rfl
  rw [hlen]
  by_cases h1 : x.k = 1
  · rw [chk1 h1] at hok
    simp only [Bool.and_eq_true] at hok
    have c1 := of_decide_eq_true hok.1
    rw [wB, if_pos h1, List.length_append]
    have := lebL_2 (n := x.data.length) (by omega)
    omega
  by_cases h2 : x.k = 2
  · rw [chk2 h2] at hok
    simp only [Bool.and_eq_true] at hok
    have c1 := hok.1
    have c0 := c1
    rw [treeB, Bool.and_eq_true] at c0
    have c2 := of_decide_eq_true c0.1
    have := ents_4000 fun e he => (tree_names c1 he).1
    rw [wB, if_neg h1, if_pos h2, List.length_append, lebL_1 (by omega)]
    omega
  by_cases h3 : x.k = 3
  · rw [chk3 h3] at hok
    simp only [Bool.and_eq_true] at hok
    have c1 := hok.1
    have c4 := of_decide_eq_true hok.2.1
    rw [parsB, Bool.and_eq_true] at c1
    have c2 := of_decide_eq_true c1.1
    have := lebL_2 (n := x.m.size) (by omega)
    rw [wB, if_neg h1, if_neg h2, if_pos h3, List.length_append, List.length_append, List.length_append, tipL_len, parsW_len, strB, List.length_append, str_len, lebL_1 (by omega)]
    omega
  by_cases h4 : x.k = 4
  · rw [chk4 h4] at hok
    simp only [Bool.and_eq_true] at hok
    have c4 := of_decide_eq_true hok.2.2.1
    have := lebL_2 (n := x.m.size) (by omega)
    rw [wB, if_neg h1, if_neg h2, if_neg h3, List.length_append, List.length_append, tipL_len, strB, List.length_append, str_len]
    simp only [List.length_cons, List.length_nil]
    omega
  · rw [chk0 h1 h2 h3 h4] at hok; cases hok

end Go.Proofs.YtloljpefdecmhaaGreatDoor

namespace Go.Proofs.YtloljpefdecmhaaGreatDoor
open Go Go.Mv
set_option maxRecDepth 8000
theorem c_obID (x : Ob) (xd : Value) (xe : Value) (xp : Value) (HX : Mem) (w : World) (hbxd : Rdb ((0, .cells (wfV 8 (s8f shaB)).cells 107 (0, 0)) :: (1, .cells (wfV 64 (gtf shaK)).cells 217 (0, 0)) :: HX) xd x.data) (hbxe : Rdx 34 (entC) ((0, .cells (wfV 8 (s8f shaB)).cells 107 (0, 0)) :: (1, .cells (wfV 64 (gtf shaK)).cells 217 (0, 0)) :: HX) xe x.ents) (hbxp : Rdx 32 (idC) ((0, .cells (wfV 8 (s8f shaB)).cells 107 (0, 0)) :: (1, .cells (wfV 64 (gtf shaK)).cells 217 (0, 0)) :: HX) xp x.pars) (hox : ObOk x) (hH : Hp ((0, .cells (wfV 8 (s8f shaB)).cells 107 (0, 0)) :: (1, .cells (wfV 64 (gtf shaK)).cells 217 (0, 0)) :: HX) w) : Calls Tryz.prog 30 #[objV x xd xe xp] w (Ret w [] fun v H1 => v = .tuple #[idV (idO x), .int .i64 (err (obOkB x) 70)] ∧ H1 = []) := by
  have hw1 := hox.d; have hw2 := hox.e; have hw3 := hox.p; have hw4 := hox.m; have hwe := hox.en
  refine fn_enter (args := [_]) Tryz.func30 rfl Tryz.ntmps30 rfl hH ?_
  refine pn_seq ?_
  refine pn_plain [] rfl ?_
  refine TE_boxC (objV x xd xe xp).cells rfl rfl rfl trivial rfl fun b1 hb1 => ?_
  refine TE_allocC (idV (fun _ => 0)).cells rfl Tryz.zeroValue36 rfl trivial rfl fun b2 hb2 => ?_
  refine TE_q rfl rfl (RD.assign rfl) rfl ?_
  refine TE_nil0 ?_
  refine pn_seq ?_
  refine pn_plain [] rfl ?_
  refine TE_l rfl rfl trivial rfl (RD.loadA (i := 1) Tryz.isAgg48 Tryz.sizeOf48 rfl rfl (Nat.le_of_ble_eq_true rfl) (obj_all _ _ _ _)) rfl ?_
  refine TE_callG _ ((0, .cells (wfV 8 (s8f shaB)).cells 107 (0, 0)) :: (1, .cells (wfV 64 (gtf shaK)).cells 217 (0, 0)) :: HX) rfl rfl trivial Tryz.call26 rfl rfl rfl (fun w hw => c_obEncode x xd xe xp ((0, .cells (wfV 8 (s8f shaB)).cells 107 (0, 0)) :: (1, .cells (wfV 64 (gtf shaK)).cells 217 (0, 0)) :: HX) w (hbxd.mono (fun _ hw => hw.sp (fun a => by simp -failIfUnchanged <;> omega))) (hbxe.mono (fun _ hw => hw.sp (fun a => by simp -failIfUnchanged <;> omega))) (hbxp.mono (fun _ hw => hw.sp (fun a => by simp -failIfUnchanged <;> omega))) hox (hw.sp (fun a => by simp -failIfUnchanged <;> omega))) (fun a => by simp -failIfUnchanged <;> omega) ?_
  rintro v7 H8 (⟨hok1, st2, hbo3, rfl, rfl⟩ | ⟨hok6, rfl, rfl⟩) hX9
  · have hRD5 : Rdx 1 (byteC) (bldMx 5 (byteC) (obB x) st2) (bldVx (obB x) st2) (obB x) := hbo3.rdx (u := 5) byteC_len; refine TE_sp ((b2, .cells (idV (fun _ => 0)).cells 36 (0, 0)) :: (b1, .cells (objV x xd xe xp).cells 48 (0, 0)) :: (0, .cells (wfV 8 (s8f shaB)).cells 107 (0, 0)) :: (1, .cells (wfV 64 (gtf shaK)).cells 217 (0, 0)) :: ((bldMx 5 (byteC) (obB x) st2) ++ HX)) (fun a => by simp -failIfUnchanged <;> omega) ?_
    refine TE_q rfl rfl (RD.move rfl) rfl ?_
    refine TE_q rfl rfl (RD.extract rfl rfl) rfl ?_
    refine TE_q rfl rfl (RD.extract rfl rfl) rfl ?_
    refine TE_q rfl rfl (RD.assign rfl) rfl ?_
    refine TE_q rfl rfl (RD.assign rfl) rfl ?_
    refine TE_nil0 ?_
    refine pn_seq ?_
    refine pn_seq ?_
    refine pn_plainG [] ((b2, .cells (idV (fun _ => 0)).cells 36 (0, 0)) :: (0, .cells (wfV 8 (s8f shaB)).cells 107 (0, 0)) :: (1, .cells (wfV 64 (gtf shaK)).cells 217 (0, 0)) :: (bldMx 5 (byteC) (obB x) st2)) rfl (fun a => by simp -failIfUnchanged <;> omega) ?_
    refine TE_q rfl rfl (RD.move rfl) rfl ?_
    refine TE_q rfl rfl (RD.as (v := .bool false) (RD.neq rfl rfl) rfl) rfl ?_
    refine TE_nil0 ?_
    refine pn_condF rfl ?_
    refine pn_skip ?_
    refine pn_seq ?_
    refine pn_plain [] rfl ?_
    refine TE_q rfl rfl (RD.move rfl) rfl ?_
    refine TE_buildSlice (cells := #[bldVx (obB x) st2]) rfl Tryz.runUnderlying30 Tryz.sizeOf32 Tryz.zeroValue32 rfl rfl rfl (by obtain ⟨a0, c0, e0⟩ := (hRD5).shape; rw [e0]; kernel_rfl) trivial rfl fun b16 hb16 => ?_
    refine TE_callG _ ((b16, .cells #[bldVx (obB x) st2] 32 (0, 0)) :: (0, .cells (wfV 8 (s8f shaB)).cells 107 (0, 0)) :: (1, .cells (wfV 64 (gtf shaK)).cells 217 (0, 0)) :: (bldMx 5 (byteC) (obB x) st2)) rfl rfl trivial Tryz.call19 rfl rfl rfl (fun w hw => c_hashOf b16 (bldVx (obB x) st2) (obB x) (bldMx 5 (byteC) (obB x) st2) w ((Rdb.of_x hRD5).mono (fun _ hw => hw.sp (fun a => by simp -failIfUnchanged <;> omega))) (by have h9 := obB_4000 hok1; omega) (hw.sp (fun a => by simp -failIfUnchanged <;> omega))) (fun a => by simp -failIfUnchanged <;> omega) ?_
    rintro v10 H11 ⟨rfl, rfl⟩ -
    refine TE_putCW 1 (idV (fun _ => 0)).cells (idV (shaF (obB x))).cells ((b16, .cells #[bldVx (obB x) st2] 32 (0, 0)) :: (b2, .cells (idV (shaF (obB x))).cells 36 (0, 0)) :: (0, .cells (wfV 8 (s8f shaB)).cells 107 (0, 0)) :: (1, .cells (wfV 64 (gtf shaK)).cells 217 (0, 0)) :: (bldMx 5 (byteC) (obB x) st2)) rfl Tryz.sizeOf36 trivial rfl rfl rfl rfl rfl rfl rfl rfl (.inl hb2) ?_
    refine TE_q rfl rfl (RD.assign rfl) rfl ?_
    refine TE_nil0 ?_
    refine pn_ret ?_
    exact pn_doneF rfl ⟨idV (shaF (obB x)), _, b2, 0, rfl, rfl, load_agg (i := 1) Tryz.isAgg36 Tryz.sizeOf36 rfl (Nat.le_of_ble_eq_true rfl) (id_all _), ⟨_, _, rfl, rfl, rfl⟩⟩ ⟨(by rw [idO, hok1]; rfl), rfl⟩ (fun _ h => h.sp (fun _ => Nat.zero_le _)) (fun _ he => nomatch he)
  · refine TE_q rfl rfl (RD.move rfl) rfl ?_
    refine TE_q rfl rfl (RD.extract rfl rfl) rfl ?_
    refine TE_q rfl rfl (RD.extract rfl rfl) rfl ?_
    refine TE_q rfl rfl (RD.assign rfl) rfl ?_
    refine TE_q rfl rfl (RD.assign rfl) rfl ?_
    refine TE_nil0 ?_
    refine pn_seq ?_
    refine pn_seq ?_
    refine pn_plainG [] [(b2, .cells (idV (fun _ => 0)).cells 36 (0, 0)), (0, .cells (wfV 8 (s8f shaB)).cells 107 (0, 0)), (1, .cells (wfV 64 (gtf shaK)).cells 217 (0, 0))] rfl (fun a => by simp -failIfUnchanged <;> omega) ?_
    refine TE_q rfl rfl (RD.move rfl) rfl ?_
    refine TE_q rfl rfl (RD.as (v := .bool true) (RD.neq rfl rfl) rfl) rfl ?_
    refine TE_nil0 ?_
    refine pn_condT rfl ?_
    refine pn_seq ?_
    refine pn_plain [] rfl ?_
    refine TE_q rfl rfl (RD.build (v := idV (fun _ => 0)) rfl (bd_id0)) rfl ?_
    refine TE_q rfl rfl (RD.move rfl) rfl ?_
    refine TE_putCW 0 (idV (fun _ => 0)).cells (idV (fun _ => 0)).cells [(b2, .cells (idV (fun _ => 0)).cells 36 (0, 0)), (0, .cells (wfV 8 (s8f shaB)).cells 107 (0, 0)), (1, .cells (wfV 64 (gtf shaK)).cells 217 (0, 0))] rfl Tryz.sizeOf36 trivial rfl rfl rfl rfl rfl rfl rfl rfl (.inl hb2) ?_
    refine TE_q rfl rfl (RD.assign rfl) rfl ?_
    refine TE_nil0 ?_
    refine pn_ret ?_
    exact pn_doneF rfl ⟨idV (fun _ => 0), _, b2, 0, rfl, rfl, load_agg (i := 0) Tryz.isAgg36 Tryz.sizeOf36 rfl (Nat.le_of_ble_eq_true rfl) (id_all _), ⟨_, _, rfl, rfl, rfl⟩⟩ ⟨(by rw [idO, hok6]; rfl), rfl⟩ (fun _ h => h.sp (fun _ => Nat.zero_le _)) (fun _ he => nomatch he)

end Go.Proofs.YtloljpefdecmhaaGreatDoor
