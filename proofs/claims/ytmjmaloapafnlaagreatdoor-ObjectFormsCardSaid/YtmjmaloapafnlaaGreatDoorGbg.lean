import Derived.Test.YtmjmaloapafnlaaGreatDoorGbf
namespace Go.Proofs.YtmjmaloapafnlaaGreatDoor
open Tryz
open Go Go.Mv
set_option maxRecDepth 8000
theorem r7B_eq {x : Ob} (h : obOkB x = true) : r7B x = obB x := by
  by_cases h1 : x.k = 1
  · simp [r7B, obB, wB, h1]
  · by_cases h2 : x.k = 2
    · simp [r7B, obB, wB, h2]
    · by_cases h3 : x.k = 3
      · simp [r7B, obB, wB, h3]
      · by_cases h4 : x.k = 4
        · simp [r7B, obB, wB, h4]
        · rw [chk0 h1 h2 h3 h4] at h; cases h

theorem c_r7Enc (x : Ob) (xd : Value) (xe : Value) (xp : Value) (HX : Mem) (w : World) (hbxd : Rdb HX xd x.data) (hbxe : Rdx 34 (entC) HX xe x.ents) (hbxp : Rdx 32 (idC) HX xp x.pars) (hox : ObOk x) (hH : Hp HX w) : Calls Tryz.prog 29 #[objV x xd xe xp] w (Ret w [] fun v H1 => (obOkB x = true ∧ ∃ st', BldOk 1 (byteC) (obB x) st' ∧ v = .tuple #[bldVx (obB x) st', .int .i64 0] ∧ H1 = bldMx 5 (byteC) (obB x) st') ∨ (obOkB x = false ∧ v = .tuple #[.slice none 0 0, .int .i64 70] ∧ H1 = [])) := by
 have hw1 := hox.d; have hw2 := hox.e; have hw3 := hox.p; have hw4 := hox.m; have hwe := hox.en
 refine fn_enter (args := [_]) func29 rfl ntmps29 rfl hH (sq (pl (TE_boxC (objV x xd xe xp).cells rfl rfl rfl trivial rfl fun b1 hb1 => (qa rfl (qa rfl (n0 (sq (sq (pl ?_)))))))))
 refine ql rfl (RD.loadA (i := 0) isAgg48 sizeOf48 rfl rfl (Nat.le_of_ble_eq_true rfl) (obj_all _ _ _ _)) (cG rfl call36 (fun w hw => c_r7Check x xd xe xp HX w hbxd.s hbxe.s hbxp.s hox hw.s) ?_)
 rintro v1 H2 ⟨rfl, rfl⟩ -
 refine qq rfl (RD.neq rfl rfl) (n0 (pn_condN rfl (fun hc3 => ?_) (fun hc3 => ?_)))
 ·exact sq (plG [] [] (qa rfl (qa rfl (n0 (rt (pn_doneS [] rfl rfl (.inr ⟨err1 hc3, rfl, rfl⟩) (fun _ => Nat.zero_le _) (fun _ he => nomatch he)))))))
 ·refine sk (sq (pl (ql rfl (RD.loadA (i := 0) isAgg48 sizeOf48 rfl rfl (Nat.le_of_ble_eq_true rfl) (obj_all _ _ _ _)) (cG rfl call79 (fun w hw => c_Bytes7 x xd xe xp HX w hbxd.s hbxe.s hbxp.s hox hw.s) ?_))))
  rintro v8 H9 ⟨st4, hbo5, rfl, rfl⟩ hX6
  have hRD7 := hbo5.rdx (u := 5) byteC_len
  refine tsp ((b1, .cells (objV x xd xe xp).cells 48 (0, 0)) :: ((bldMx 5 (byteC) (r7B x) st4) ++ HX)) (qa rfl (qa rfl (n0 (rt ?_))))
  have he10 : (r7B x) = obB x := r7B_eq (err0 hc3)
  exact dS (bldMx 5 byteC (r7B x) st4) rfl rfl (.inl ⟨err0 hc3, st4, (by rw [← he10]; exact hbo5), (by rw [← he10]; rfl), (by rw [← he10])⟩) (ownN hX6)
theorem c_r7ID (x : Ob) (xd : Value) (xe : Value) (xp : Value) (HX : Mem) (w : World) (hbxd : Rdb HX xd x.data) (hbxe : Rdx 34 (entC) HX xe x.ents) (hbxp : Rdx 32 (idC) HX xp x.pars) (hox : ObOk x) (hH : Hp HX w) : Calls Tryz.prog 33 #[objV x xd xe xp] w (Ret w [] fun v H1 => v = .tuple #[idV (idO x), .int .i64 (err (obOkB x) 70)] ∧ H1 = []) := by
 have hw1 := hox.d; have hw2 := hox.e; have hw3 := hox.p; have hw4 := hox.m; have hwe := hox.en
 refine fn_enter (args := [_]) func33 rfl ntmps33 rfl hH (sq (pl (TE_boxC (objV x xd xe xp).cells rfl rfl rfl trivial rfl fun b1 hb1 => (TE_allocC (idV (fun _ => 0)).cells rfl zeroValue36 rfl trivial rfl fun b2 hb2 => (qa rfl (n0 (sq (pl (ql rfl (RD.loadA (i := 1) isAgg48 sizeOf48 rfl rfl (Nat.le_of_ble_eq_true rfl) (obj_all _ _ _ _)) ?_)))))))))
 refine cG rfl call29 (fun w hw => c_r7Enc x xd xe xp HX w hbxd.s hbxe.s hbxp.s hox hw.s) ?_
 rintro v7 H8 (⟨hok1, st2, hbo3, rfl, rfl⟩ | ⟨hok6, rfl, rfl⟩) hX9
 ·have hRD5 := hbo3.rdx (u := 5) byteC_len; refine TE_sp ((b2, .cells (idV (fun _ => 0)).cells 36 (0, 0)) :: (b1, .cells (objV x xd xe xp).cells 48 (0, 0)) :: ((bldMx 5 byteC (obB x) st2) ++ HX)) (fun a => by simp -failIfUnchanged <;> omega) ?_
  refine qm rfl (qe rfl (qe rfl (qa rfl (qa rfl (n0 (sq (sq (plG [] ((b2, .cells (idV (fun _ => 0)).cells 36 (0, 0)) :: (bldMx 5 byteC (obB x) st2)) (qm rfl ?_)))))))))
  refine qq rfl (RD.as (v := .bool false) (RD.neq rfl rfl) rfl) (n0 (pn_condF rfl (sk (sq (pl (qm rfl (cG rfl call70 (fun w hw => c_Of3 (bldVx (obB x) st2) (obB x) (bldMx 5 byteC (obB x) st2) w ((Rdb.of_x hRD5).mono sb) (by have h9 := obB_4000 hok1; omega) hw.s) ?_)))))))
  rintro v10 H11 ⟨rfl, rfl⟩ -
  exact TE_putCW 0 _ _ ((b2, .cells (idV (shaF (obB x))).cells 36 (0, 0)) :: (bldMx 5 byteC (obB x) st2)) rfl sizeOf36 trivial rfl rfl rfl rfl rfl rfl rfl rfl (.inl hb2) (qa rfl (n0 (rt (pn_doneF rfl ⟨idV (shaF (obB x)), _, b2, 0, rfl, rfl, load_agg (i := 0) isAgg36 sizeOf36 rfl (Nat.le_of_ble_eq_true rfl) (id_all _), ⟨_, _, rfl, rfl, rfl⟩⟩ ⟨(by rw [idO, hok1]; rfl), rfl⟩ (fun _ h => h.sp (fun _ => Nat.zero_le _)) (fun _ he => nomatch he)))))
 ·refine qm rfl (qe rfl (qe rfl (qa rfl (qa rfl (n0 (sq (sq (plG [] [(b2, .cells (idV (fun _ => 0)).cells 36 (0, 0))] (qm rfl ?_)))))))))
  refine qq rfl (RD.as (v := .bool true) (RD.neq rfl rfl) rfl) (n0 (pn_condT rfl (sq (pl (qq rfl (RD.build (v := idV (fun _ => 0)) rfl (bd_id0)) (qm rfl (TE_putCW 0 _ _ [(b2, .cells (idV (fun _ => 0)).cells 36 (0, 0))] rfl sizeOf36 trivial rfl rfl rfl rfl rfl rfl rfl rfl (.inl hb2) (qa rfl (n0 ?_)))))))))
  exact rt (pn_doneF rfl ⟨idV (fun _ => 0), _, b2, 0, rfl, rfl, load_agg (i := 0) isAgg36 sizeOf36 rfl (Nat.le_of_ble_eq_true rfl) (id_all _), ⟨_, _, rfl, rfl, rfl⟩⟩ ⟨(by rw [idO, hok6]; rfl), rfl⟩ (fun _ h => h.sp (fun _ => Nat.zero_le _)) (fun _ he => nomatch he))
end Go.Proofs.YtmjmaloapafnlaaGreatDoor

namespace Go.Proofs.YtmjmaloapafnlaaGreatDoor
open Tryz
open Go Go.Mv
set_option maxRecDepth 8000
/-- A reading went well, or it did not. -/
def RdU {α : Type} (d : Dr α) (z x : α) (e : Int) (r : List UInt8) : Prop := (e = 0 ∧ d = .ok x r) ∨ ((0 < e ∧ e ≤ 200) ∧ (∃ f, d = .err f) ∧ x = z)
theorem RdU.rng {α : Type} {d : Dr α} {z x : α} {e : Int} {r : List UInt8} (h : RdU d z x e r) : 0 ≤ e ∧ e ≤ 200 := by
  rcases h with ⟨h, _⟩ | ⟨h, _⟩ <;> omega
theorem RdU.ok {α : Type} {d : Dr α} {z x : α} {e : Int} {r : List UInt8} (h : RdU d z x e r) (he : e = 0) : d = .ok x r := by
  rcases h with ⟨_, h⟩ | ⟨h, _⟩
  · exact h
  · omega
theorem RdU.bad {α : Type} {d : Dr α} {z x : α} {e : Int} {r : List UInt8} (h : RdU d z x e r) (he : ¬ e = 0) : ∃ f, d = .err f := by
  rcases h with ⟨h, _⟩ | ⟨_, h, _⟩
  · exact absurd h he
  · exact h
theorem rawD_err {n : Nat} {ys : List UInt8} {e : Int} (h : rawD n ys = .err e) : 0 < e ∧ e ≤ 200 := by
  unfold rawD at h
  split at h
  · injection h with h; omega
  · cases h
theorem numD_err {n : Nat} {ys : List UInt8} {e : Int} (h : numD n ys = .err e) : 0 < e ∧ e ≤ 200 := by
  unfold numD at h
  repeat' split at h
  all_goals first | (injection h with h; omega) | cases h
theorem bytesD_err {n : Nat} {ys : List UInt8} {e : Int} (h : bytesD n ys = .err e) : 0 < e ∧ e ≤ 200 := by
  unfold bytesD at h
  split at h
  · rename_i e' h'; injection h with h; subst h; exact numD_err h'
  · exact rawD_err h

theorem c_r01Raw (HX : Mem) (s : Nat) (sv : Value) (ys : List UInt8) (n : Nat) (w : World) (hb : Rdb HX sv ys) (hl : ys.length ≤ 1000000) (hn : n ≤ 1000000) (hw : Hp ((s, .cells #[sv] 223 (0, 0)) :: HX) w) : Calls Tryz.prog 139 #[.pointer (some ⟨s, 0, none⟩), .int .i64 (n : Int)] w (Ret w (keys (rsrcM s sv HX)) fun v H1 => ∃ b e r sv' st', RdU (rawD n ys) [] b e r ∧ BldOk 1 (byteC) b st' ∧ Rdb HX sv' r ∧ r.length ≤ ys.length ∧ v = .tuple #[bldVx b st', .int .i64 e] ∧ H1 = (bldMx 5 (byteC) b st' ++ ((s, .cells #[sv'] 223 (0, 0)) :: HX))) := by
  refine (c_rsRaw HX s n sv ys w hb (by omega) hw).mono ?_
  rintro e w' ⟨v, H1, rfl, hr, h3⟩
  refine ⟨_, _, rfl, ?_, h3⟩
  rcases hr with ⟨b, r, v', x, H2, hd, rfl, hr, rfl, hb', hl'⟩ | ⟨e, v', r, hd, he, rfl, rfl, hb', hl'⟩
  · obtain ⟨st', h1, rfl, rfl⟩ := hr.bld
    exact ⟨b, 0, r, v', st', .inl ⟨rfl, hd⟩, BldOk.of_snk h1, hb', hl', by rw [bldVx_b], by rw [bldMx_b]; rfl⟩
  · exact ⟨[], e, r, v', none, .inr ⟨rawD_err hd, ⟨_, hd⟩, rfl⟩, BldOk.nil, hb', hl', rfl, rfl⟩

theorem c_r01Byt (HX : Mem) (s : Nat) (sv : Value) (ys : List UInt8) (n : Nat) (w : World) (hb : Rdb HX sv ys) (hl : ys.length ≤ 1000000) (hn : n ≤ 1000000) (hw : Hp ((s, .cells #[sv] 223 (0, 0)) :: HX) w) : Calls Tryz.prog 140 #[.pointer (some ⟨s, 0, none⟩), .int .i64 (n : Int)] w (Ret w (keys (rsrcM s sv HX)) fun v H1 => ∃ b e r sv' st', RdU (bytesD n ys) [] b e r ∧ BldOk 1 (byteC) b st' ∧ Rdb HX sv' r ∧ r.length ≤ ys.length ∧ v = .tuple #[bldVx b st', .int .i64 e] ∧ H1 = (bldMx 5 (byteC) b st' ++ ((s, .cells #[sv'] 223 (0, 0)) :: HX))) := by
  refine (c_rsBytes HX s n sv ys w hb (by omega) (by omega) hw).mono ?_
  rintro e w' ⟨v, H1, rfl, hr, h3⟩
  refine ⟨_, _, rfl, ?_, h3⟩
  rcases hr with ⟨b, r, v', x, H2, hd, rfl, hr, rfl, hb', hl'⟩ | ⟨e, v', r, hd, he, rfl, rfl, hb', hl'⟩
  · obtain ⟨st', h1, rfl, rfl⟩ := hr.bld
    exact ⟨b, 0, r, v', st', .inl ⟨rfl, hd⟩, BldOk.of_snk h1, hb', hl', by rw [bldVx_b], by rw [bldMx_b]; rfl⟩
  · exact ⟨[], e, r, v', none, .inr ⟨bytesD_err hd, ⟨_, hd⟩, rfl⟩, BldOk.nil, hb', hl', rfl, rfl⟩

theorem c_r01NumS (HX : Mem) (s : Nat) (sv : Value) (ys : List UInt8) (n : Nat) (w : World) (hb : Rdb HX sv ys) (hl : ys.length ≤ 1000000) (hn : n ≤ 1000000) (hw : Hp ((s, .cells #[sv] 223 (0, 0)) :: HX) w) : Calls Tryz.prog 141 #[.pointer (some ⟨s, 0, none⟩), .int .u64 (n : Int)] w (Ret w (keys ((s, .cells #[sv] 223 (0, 0)) :: HX)) fun v H1 => ∃ x e r sv', RdU (numD n ys) 0 x e r ∧ Rdb HX sv' r ∧ r.length ≤ ys.length ∧ v = .tuple #[.int .u64 (x : Int), .int .i64 e] ∧ H1 = ((s, .cells #[sv'] 223 (0, 0)) :: HX)) := by
  refine (c_rsNum HX s n sv ys w hb (by omega) hw).mono ?_
  rintro e w' ⟨v, H1, rfl, ⟨x, r, v', hd, rfl, rfl, hr, hrl⟩ | ⟨e, v', r, hd, he, rfl, rfl, hr, hrl⟩, h3⟩
  · exact ⟨_, _, rfl, ⟨x, 0, r, v', .inl ⟨rfl, hd⟩, hr, hrl, rfl, rfl⟩, h3⟩
  · exact ⟨_, _, rfl, ⟨0, e, r, v', .inr ⟨numD_err hd, ⟨_, hd⟩, rfl⟩, hr, hrl, rfl, rfl⟩, h3⟩

theorem own_k1 {a : Nat × Obj} {HX : Mem} {m : Nat} : ∀ e ∈ HX, m ≤ e.1 ∨ e.1 ∈ keys (a :: HX) := fun e he => .inr (mem_keys.2 ⟨e, by simp [he], rfl⟩)
def msgD (ys : List UInt8) : Dr ByteArray := match bytesD 4000 ys with
  | .ok b r => .ok ⟨b.toArray⟩ r
  | .err e => .err e
theorem msgU {ys b r : List UInt8} {e : Int} (h : RdU (bytesD 4000 ys) [] b e r) : RdU (msgD ys) ⟨#[]⟩ ⟨b.toArray⟩ e r := by
  rcases h with ⟨h0, h⟩ | ⟨h0, ⟨f, h⟩, rfl⟩
  · exact .inl ⟨h0, by rw [msgD, h]⟩
  · exact .inr ⟨h0, ⟨f, by rw [msgD, h]⟩, rfl⟩
def tcp (l : List UInt8) (i : Nat) : Nat → Int := fun j => if j < i then ((l.getD j 0).toNat : Int) else 0
theorem tcp_0 (l : List UInt8) : idV (tcp l 0) = idV (fun _ => 0) := by
  have : tcp l 0 = fun _ => 0 := by funext j; simp [tcp]
  rw [this]
theorem tcp_next (l : List UInt8) {i : Nat} : (idV (upd (tcp l i) i ((gt l i).toNat : Int))).cells = (idV (tcp l (i + 1))).cells := by
  have : upd (tcp l i) i ((gt l i).toNat : Int) = tcp l (i + 1) := by
    funext j
    by_cases hj : j = i
    · subst hj; rw [upd_same, tcp, if_pos (by omega)]; rfl
    · rw [upd_other hj]; simp only [tcp]
      by_cases h1 : j < i
      · rw [if_pos h1, if_pos (by omega)]
      · rw [if_neg h1, if_neg (by omega)]
  rw [this]
theorem tcp_end {l : List UInt8} {i : Nat} (h : l.length ≤ i) : tcp l i = tipOf l := by
  funext j
  simp only [tcp, tipOf]
  split
  · rfl
  · rw [List.getD_eq_getElem?_getD, List.getElem?_eq_none (by omega)]; rfl
theorem rawD_len {n : Nat} {ys b r : List UInt8} (h : rawD n ys = .ok b r) : b.length = n := by
  unfold rawD at h
  split at h
  · cases h
  · injection h with h1 h2; rw [← h1, List.length_take]; omega
theorem rawU_le {n : Nat} {ys b r : List UInt8} {e : Int} (h : RdU (rawD n ys) [] b e r) : b.length ≤ n := by
  rcases h with ⟨_, h⟩ | ⟨_, _, rfl⟩
  · exact Nat.le_of_eq (rawD_len h)
  · exact Nat.zero_le _
def idD (ys : List UInt8) : Dr (Nat → Int) := match rawD 32 ys with
  | .ok b r => .ok (tipOf b) r
  | .err e => .err e
theorem tipOf_nil : tipOf [] = fun _ => 0 := by funext j; rfl
theorem idU {ys b r : List UInt8} {e : Int} (h : RdU (rawD 32 ys) [] b e r) : RdU (idD ys) (fun _ => 0) (tipOf b) e r := by
  rcases h with ⟨h0, h⟩ | ⟨h0, ⟨f, h⟩, rfl⟩
  · exact .inl ⟨h0, by rw [idD, h]⟩
  · exact .inr ⟨h0, ⟨f, by rw [idD, h]⟩, tipOf_nil⟩

theorem c_r7Msg (s : Nat) (sv : Value) (ys : List UInt8) (HX : Mem) (w : World) (hby : Rdb HX sv ys) (hly : ys.length ≤ 1000000) (hH : Hp ((s, .cells #[sv] 223 (0, 0)) :: HX) w) : Calls Tryz.prog 144 #[.pointer (some ⟨s, 0, none⟩)] w (Ret w (keys ((s, .cells #[sv] 223 (0, 0)) :: HX)) fun v H1 => ∃ x e r sv', RdU (msgD ys) ⟨#[]⟩ x e r ∧ Rdb HX sv' r ∧ r.length ≤ ys.length ∧ v = .tuple #[.string x, .int .i64 e] ∧ H1 = ((s, .cells #[sv'] 223 (0, 0)) :: HX)) := by
 refine fn_enter (args := [_]) func144 rfl ntmps144 rfl hH (sq (pl (qa rfl (qa rfl (n0 (sq (pl (qm rfl (cM ((s, .cells #[sv] 223 (0, 0)) :: HX) [] rfl call140 (ownC (.inr (by simp [keys])) own_k1) (fun w hw => c_r01Byt HX s sv ys 4000 w hby.s hly (by omega) hw.s) ?_)))))))))
 rintro v12 H13 ⟨x2, e3, r4, sv5, st6, hu7, hbo10, hr8, hrl9, rfl, rfl⟩ hX1
 have hrghu7 := RdU.rng hu7
 have hRD11 := hbo10.rdx (u := 5) byteC_len
 refine tsp ((s, .cells #[sv5] 223 (0, 0)) :: ((bldMx 5 (byteC) x2 st6) ++ HX)) (qm rfl (qe rfl (qe rfl (qa rfl (qa rfl (n0 (sq (pl (qm rfl ?_)))))))))
 exact ql rfl (RD.str_of_bytes underlying32 underlying9 underlying5 rfl (BytesIn.mono ((Rdb.of_x hRD11)).bytes sb)) (qm rfl (qa rfl (qa rfl (n0 (rt (dS ((s, .cells #[sv5] 223 (0, 0)) :: HX) rfl rfl ⟨_, _, r4, sv5, msgU hu7, hr8, (by omega), rfl, rfl⟩ (ownC (.inr (by simp [keys])) (oC (oR hX1)))))))))
theorem c_r7Id (s : Nat) (sv : Value) (ys : List UInt8) (HX : Mem) (w : World) (hby : Rdb HX sv ys) (hly : ys.length ≤ 1000000) (hH : Hp ((s, .cells #[sv] 223 (0, 0)) :: HX) w) : Calls Tryz.prog 143 #[.pointer (some ⟨s, 0, none⟩)] w (Ret w (keys ((s, .cells #[sv] 223 (0, 0)) :: HX)) fun v H1 => ∃ x e r sv', RdU (idD ys) (fun _ => 0) x e r ∧ Rdb HX sv' r ∧ r.length ≤ ys.length ∧ v = .tuple #[idV x, .int .i64 e] ∧ H1 = ((s, .cells #[sv'] 223 (0, 0)) :: HX)) := by
 refine fn_enter (args := [_]) func143 rfl ntmps143 rfl hH (sq (pl (TE_allocC (idV (fun _ => 0)).cells rfl zeroValue36 rfl trivial rfl fun b2 hb2 => (qa rfl (n0 (sq (pl (qq rfl (RD.build (v := idV (fun _ => 0)) rfl (bd_id0)) (TE_allocC (idV (fun _ => 0)).cells rfl zeroValue36 rfl trivial rfl fun b4 hb4 => ?_)))))))))
 refine TE_putCW 0 _ _ ((b4, .cells (idV (fun _ => 0)).cells 36 (0, 0)) :: (b2, .cells (idV (fun _ => 0)).cells 36 (0, 0)) :: (s, .cells #[sv] 223 (0, 0)) :: HX) rfl sizeOf36 trivial rfl rfl rfl rfl rfl rfl rfl rfl (.inl hb4) (n0 (sq (pl (qm rfl (cM ((s, .cells #[sv] 223 (0, 0)) :: HX) [(b4, .cells (idV (fun _ => 0)).cells 36 (0, 0)), (b2, .cells (idV (fun _ => 0)).cells 36 (0, 0))] rfl call139 (ownC (.inr (by simp [keys])) own_k1) (fun w hw => c_r01Raw HX s sv ys 32 w hby.s hly (by omega) hw.s) ?_)))))
 rintro v12 H13 ⟨x2, e3, r4, sv5, st6, hu7, hbo10, hr8, hrl9, rfl, rfl⟩ hX1
 have hrghu7 := RdU.rng hu7
 have hRD11 := hbo10.rdx (u := 5) byteC_len
 refine tsp ((s, .cells #[sv5] 223 (0, 0)) :: (b4, .cells (idV (fun _ => 0)).cells 36 (0, 0)) :: (b2, .cells (idV (fun _ => 0)).cells 36 (0, 0)) :: ((bldMx 5 (byteC) x2 st6) ++ HX)) (qm rfl (qe rfl (qe rfl (qa rfl (qa rfl (n0 (sq (sq (pl ?_)))))))))
 refine qa rfl (n0 (pn_block ?_))
 have hz0 : (idV (tcp x2 0)).cells = (idV (fun _ => 0)).cells := by rw [tcp_0]
 refine pn_sp ((s, .cells #[sv5] 223 (0, 0)) :: (b4, .cells (idV (tcp x2 0)).cells 36 (0, 0)) :: (b2, .cells (idV (fun _ => 0)).cells 36 (0, 0)) :: ((bldMx 5 byteC x2 st6) ++ HX)) (fun a => by rw [hz0]; exact Nat.le_refl _) ?_
 have hr32 := rawU_le hu7
 refine lpS (σ := Nat) (fun q => [(2, .pointer (some ⟨b2, 0, none⟩)), (4, .pointer (some ⟨b4, 0, none⟩)), (5, bldVx x2 st6), (6, .int .i64 e3), (7, .int .i64 (q : Int))]) (fun q => ((b4, .cells (idV (tcp x2 q)).cells 36 (0, 0)) :: (s, .cells #[sv5] 223 (0, 0)) :: (b2, .cells (idV (fun _ => 0)).cells 36 (0, 0)) :: ((bldMx 5 byteC x2 st6) ++ HX))) (fun q => (q ≤ x2.length)) (fun q => x2.length - q) 0 (by omega) ⟨rfl, rfl, rfl, rfl, rfl, trivial⟩ ?_
 rintro i hi
 refine sq (sq (pn_plain [2] rfl (qm rfl (qm rfl (qq rfl (RD.lenX runUnderlying32 rfl hRD11) (qq rfl (RD.lss rfl rfl) (n0 (pn_condD rfl (fun hc14 => ?_) (fun hc14 => ?_)))))))))
 ·refine sk (sq (pn_block (pl (qm rfl (qm rfl (qm rfl (qq rfl (RD.idxR (i := i) (o := (i * 1 + 0)) runUnderlying32 sizeOf5 rfl hRD11 rfl rfl (by omega) (by rfl)) (ql rfl (RD.ldR (i := i) (j := 0) (u := .int .u8 ((gt x2 i).toNat : Int)) isAgg5 rfl hRD11 (gt_some (by omega)) (by rfl) rfl sb) (qq rfl (RD.indexAddrA runUnderlying36 sizeOf5 rfl rfl (by omega) (by omega)) ?_)))))))))
  refine TE_storeC 0 _ _ ((b4, .cells (idV (upd (tcp x2 i) i ((gt x2 i).toNat : Int))).cells 36 (0, 0)) :: (s, .cells #[sv5] 223 (0, 0)) :: (b2, .cells (idV (fun _ => 0)).cells 36 (0, 0)) :: ((bldMx 5 byteC x2 st6) ++ HX)) rfl sizeOf5 trivial rfl rfl rfl rfl rfl (id_lt i (by omega) (by omega)) (id_put i (by omega) (by omega)) rfl (.inl hb4) (n0 (pl (qm rfl (qq rfl (RD.addI rfl rfl (by omega) (by omega)) (qa rfl (n0 ?_))))))
  have hnx : (idV (upd (tcp x2 i) i ((gt x2 i).toNat : Int))).cells = (idV (tcp x2 (i + 1))).cells := tcp_next x2 (i := i)
  exact pn_sp ((b4, .cells (idV (tcp x2 (i + 1))).cells 36 (0, 0)) :: (s, .cells #[sv5] 223 (0, 0)) :: (b2, .cells (idV (fun _ => 0)).cells 36 (0, 0)) :: ((bldMx 5 byteC x2 st6) ++ HX)) (fun a => by rw [← hnx]; exact Nat.le_refl _) (agS (i + 1) (by omega) (by omega) ⟨rfl, rfl, rfl, rfl, rfl, trivial⟩)
 ·exact xt (sq (plG [] ((b4, .cells (idV (tcp x2 i)).cells 36 (0, 0)) :: (s, .cells #[sv5] 223 (0, 0)) :: (b2, .cells (idV (fun _ => 0)).cells 36 (0, 0)) :: HX) (ql rfl (RD.loadA (i := 0) isAgg36 sizeOf36 rfl rfl (Nat.le_of_ble_eq_true rfl) (id_all _)) (qm rfl (TE_putCW 2 _ _ ((b4, .cells (idV (tcp x2 i)).cells 36 (0, 0)) :: (s, .cells #[sv5] 223 (0, 0)) :: (b2, .cells (idV (tcp x2 i)).cells 36 (0, 0)) :: HX) rfl sizeOf36 trivial rfl rfl rfl rfl rfl rfl rfl rfl (.inl hb2) (qa rfl (n0 (rt (pn_doneF rfl ⟨idV (tcp x2 i), _, b2, 0, rfl, rfl, load_agg (i := 2) isAgg36 sizeOf36 rfl (Nat.le_of_ble_eq_true rfl) (id_all _), ⟨_, _, rfl, rfl, rfl⟩⟩ ⟨_, _, r4, sv5, idU hu7, hr8, (by omega), (by rw [tcp_end (by omega)]; rfl), rfl⟩ sb (fun e he => Or.symm ((ownC (.inr (by simp [keys])) (oC (oR hX1))) e he)))))))))))
end Go.Proofs.YtmjmaloapafnlaaGreatDoor

namespace Go.Proofs.YtmjmaloapafnlaaGreatDoor
open Tryz
open Go Go.Mv
set_option maxRecDepth 8000
def ent7D (ys : List UInt8) : Dr Ent := match msgD ys with
  | .err _ => .err 70
  | .ok x r => match rawD 1 r with
    | .err _ => .err 70
    | .ok b r2 => match idD r2 with
      | .err _ => .err 70
      | .ok t r3 => .ok ⟨x, ((gt b 0).toNat : Int), t⟩ r3
section
variable {ys b r1 r2 r3 : List UInt8} {x : ByteArray} {t : Nat → Int} {e1 e2 e3 : Int}
theorem entU_ok (h1 : RdU (msgD ys) ⟨#[]⟩ x e1 r1) (h2 : RdU (rawD 1 r1) [] b e2 r2) (h3 : RdU (idD r2) (fun _ => 0) t e3 r3) (hc : e1 + e2 + e3 = 0) : RdU (ent7D ys) ⟨⟨#[]⟩, 0, fun _ => 0⟩ ⟨x, ((gt b 0).toNat : Int), t⟩ 0 r3 := by
  have q1 := h1.rng; have q2 := h2.rng; have q3 := h3.rng
  exact .inl ⟨rfl, by rw [ent7D, h1.ok (by omega)]; simp only; rw [h2.ok (by omega)]; simp only; rw [h3.ok (by omega)]⟩
theorem entU_err {r : List UInt8} (h1 : RdU (msgD ys) ⟨#[]⟩ x e1 r1) (h2 : RdU (rawD 1 r1) [] b e2 r2) (h3 : RdU (idD r2) (fun _ => 0) t e3 r3) (hc : ¬ e1 + e2 + e3 = 0) : RdU (ent7D ys) ⟨⟨#[]⟩, 0, fun _ => 0⟩ ⟨⟨#[]⟩, 0, fun _ => 0⟩ 70 r := by
  refine .inr ⟨by omega, ⟨70, ?_⟩, rfl⟩
  by_cases c1 : e1 = 0
  · rw [ent7D, h1.ok c1]
    by_cases c2 : e2 = 0
    · simp only [h2.ok c2]
      obtain ⟨f, h⟩ := h3.bad (by omega)
      rw [h]
    · obtain ⟨f, h⟩ := h2.bad c2
      simp only [h]
  · obtain ⟨f, h⟩ := h1.bad c1
    rw [ent7D, h]
end
theorem c_r7Ent (s : Nat) (sv : Value) (ys : List UInt8) (HX : Mem) (w : World) (hby : Rdb HX sv ys) (hly : ys.length ≤ 1000000) (hH : Hp ((s, .cells #[sv] 223 (0, 0)) :: HX) w) : Calls Tryz.prog 142 #[.pointer (some ⟨s, 0, none⟩)] w (Ret w (keys ((s, .cells #[sv] 223 (0, 0)) :: HX)) fun v H1 => ∃ x e r sv', RdU (ent7D ys) ⟨⟨#[]⟩, 0, fun _ => 0⟩ x e r ∧ Rdb HX sv' r ∧ r.length ≤ ys.length ∧ v = .tuple #[entV x, .int .i64 e] ∧ H1 = ((s, .cells #[sv'] 223 (0, 0)) :: HX)) := by
 refine fn_enter (args := [_]) func142 rfl ntmps142 rfl hH (sq (pl (TE_allocC (entV (⟨⟨#[]⟩, 0, (fun _ => 0)⟩ : Ent)).cells rfl zeroValue113 rfl trivial rfl fun b2 hb2 => (qa rfl (n0 (sq (pl (qm rfl (cM ((s, .cells #[sv] 223 (0, 0)) :: HX) [(b2, .cells (entV (⟨⟨#[]⟩, 0, (fun _ => 0)⟩ : Ent)).cells 113 (0, 0))] rfl call144 (ownC (.inr (by simp [keys])) own_k1) (fun w hw => c_r7Msg s sv ys HX w hby.s hly hw.s) ?_)))))))))
 rintro v9 H10 ⟨x2, e3, r4, sv5, hu6, hr7, hrl8, rfl, rfl⟩ hX1
 have hrghu6 := RdU.rng hu6
 refine tsp ((s, .cells #[sv5] 223 (0, 0)) :: (b2, .cells (entV (⟨⟨#[]⟩, 0, (fun _ => 0)⟩ : Ent)).cells 113 (0, 0)) :: HX) (qm rfl (qe rfl (qe rfl (qa rfl (qa rfl (n0 (sq (pl (qm rfl ?_)))))))))
 refine cM ((s, .cells #[sv5] 223 (0, 0)) :: HX) [(b2, .cells (entV (⟨⟨#[]⟩, 0, (fun _ => 0)⟩ : Ent)).cells 113 (0, 0))] rfl call139 (ownC (.inr (by simp [keys])) (oC hX1)) (fun w hw => c_r01Raw HX s sv5 r4 1 w hr7.s (by first | assumption | omega | (simp; done) | (simp; omega)) (by omega) hw.s) ?_
 rintro v22 H23 ⟨x12, e13, r14, sv15, st16, hu17, hbo20, hr18, hrl19, rfl, rfl⟩ hX11
 have hrghu17 := RdU.rng hu17
 have hRD21 := hbo20.rdx (u := 5) byteC_len
 refine tsp ((s, .cells #[sv15] 223 (0, 0)) :: (b2, .cells (entV (⟨⟨#[]⟩, 0, (fun _ => 0)⟩ : Ent)).cells 113 (0, 0)) :: ((bldMx 5 (byteC) x12 st16) ++ HX)) (qm rfl (qe rfl (qe rfl (qa rfl (qa rfl (n0 (sq (pl (qm rfl ?_)))))))))
 refine cM ((s, .cells #[sv15] 223 (0, 0)) :: HX) ((b2, .cells (entV (⟨⟨#[]⟩, 0, (fun _ => 0)⟩ : Ent)).cells 113 (0, 0)) :: (bldMx 5 byteC x12 st16)) rfl call143 (ownC (.inr (by simp [keys])) (oC (oR hX11))) (fun w hw => c_r7Id s sv15 r14 HX w hr18.s (by first | assumption | omega | (simp; done) | (simp; omega)) hw.s) ?_
 rintro v32 H33 ⟨x25, e26, r27, sv28, hu29, hr30, hrl31, rfl, rfl⟩ hX24
 have hrghu29 := RdU.rng hu29
 refine tsp ((s, .cells #[sv28] 223 (0, 0)) :: (b2, .cells (entV (⟨⟨#[]⟩, 0, (fun _ => 0)⟩ : Ent)).cells 113 (0, 0)) :: (HX ++ (bldMx 5 (byteC) x12 st16))) (qm rfl (qe rfl (qe rfl (TE_allocC (idV (fun _ => 0)).cells rfl zeroValue36 rfl trivial rfl fun b8 hb8 => (TE_putCW 0 _ _ ((b8, .cells (idV x25).cells 36 (0, 0)) :: (s, .cells #[sv28] 223 (0, 0)) :: (b2, .cells (entV (⟨⟨#[]⟩, 0, (fun _ => 0)⟩ : Ent)).cells 113 (0, 0)) :: (HX ++ (bldMx 5 byteC x12 st16))) rfl sizeOf36 trivial rfl rfl rfl rfl rfl rfl rfl rfl (.inl hb8) (qa rfl (n0 (sq (sq ?_)))))))))
 refine pl (qm rfl (qm rfl (qq rfl (RD.addI rfl rfl (by omega) (by omega)) (qm rfl (qq rfl (RD.addI rfl rfl (by omega) (by omega)) (qq rfl (RD.neq rfl rfl) (n0 (pn_condN rfl (fun hc34 => ?_) (fun hc34 => ?_)))))))))
 ·exact sq (plG [] ((s, .cells #[sv28] 223 (0, 0)) :: (b2, .cells (entV (⟨⟨#[]⟩, 0, (fun _ => 0)⟩ : Ent)).cells 113 (0, 0)) :: HX) (qq rfl (RD.build (v := entV (⟨⟨#[]⟩, 0, (fun _ => 0)⟩ : Ent)) rfl (fun w => by simp [Instr.build, zeroValue113, runUnderlying113, sizeOf36, sizeOf3, sizeOf9, Value.cells, Instr.fill, entV, idV])) (TE_putCW 1 _ _ ((s, .cells #[sv28] 223 (0, 0)) :: (b2, .cells (entV (⟨⟨#[]⟩, 0, (fun _ => 0)⟩ : Ent)).cells 113 (0, 0)) :: HX) rfl sizeOf113 trivial rfl rfl rfl rfl rfl rfl rfl rfl (.inl hb2) (qa rfl (n0 (rt (pn_doneF rfl ⟨entV (⟨⟨#[]⟩, 0, (fun _ => 0)⟩ : Ent), _, b2, 0, rfl, rfl, load_agg (i := 1) isAgg113 sizeOf113 rfl (Nat.le_of_ble_eq_true rfl) (ent_all _), ⟨_, _, rfl, rfl, rfl⟩⟩ ⟨_, _, r27, sv28, entU_err hu6 hu17 hu29 hc34, hr30, (by omega), rfl, rfl⟩ sb (fun e he => Or.symm ((ownC (.inr (by simp [keys])) (oC hX24)) e he)))))))))
 ·refine sk (sq ?_)
  have h1l := rawD_len (RdU.ok hu17 (by omega))
  have hub := UInt8.toNat_lt (gt x12 0)
  refine dG [3, 4, 5] [(b2, .cells (entV (⟨⟨#[]⟩, 0, (fun _ => 0)⟩ : Ent)).cells 113 (0, 0))] ((b8, .cells (idV x25).cells 36 (0, 0)) :: (s, .cells #[sv28] 223 (0, 0)) :: (HX ++ (bldMx 5 byteC x12 st16))) (qm rfl (qm rfl (qq rfl (RD.idxR (i := 0) (o := (0 * 1 + 0)) runUnderlying32 sizeOf5 rfl hRD21 rfl rfl (by omega) (by rfl)) (qq rfl (RD.ldR (i := 0) (j := 0) (u := .int .u8 ((gt x12 0).toNat : Int)) isAgg5 rfl hRD21 (gt_some (by omega)) (by rfl) rfl sb) (qq rfl (RD.convI runUnderlying5 runUnderlying3 rfl (by omega) (by omega)) (qq rfl (RD.loadA (i := 0) isAgg36 sizeOf36 rfl rfl (Nat.le_of_ble_eq_true rfl) (id_all _)) (qq rfl (RD.build (v := entV (⟨x2, ((gt x12 0).toNat : Int), x25⟩ : Ent)) rfl (fun w => by simp [Instr.build, zeroValue113, runUnderlying113, sizeOf36, sizeOf3, sizeOf9, Value.cells, Instr.fill, entV, idV])) (TE_putCW 0 _ _ [(b2, .cells (entV (⟨x2, ((gt x12 0).toNat : Int), x25⟩ : Ent)).cells 113 (0, 0))] rfl sizeOf113 trivial rfl rfl rfl rfl rfl rfl rfl rfl (.inl hb2) (qa rfl ?_)))))))))
  exact TE_nil (rt (psp ((b2, .cells (entV (⟨x2, ((gt x12 0).toNat : Int), x25⟩ : Ent)).cells 113 (0, 0)) :: (b8, .cells (idV x25).cells 36 (0, 0)) :: (s, .cells #[sv28] 223 (0, 0)) :: (HX ++ (bldMx 5 (byteC) x12 st16))) (pn_doneF rfl ⟨entV (⟨x2, ((gt x12 0).toNat : Int), x25⟩ : Ent), _, b2, 0, rfl, rfl, load_agg (i := 0) isAgg113 sizeOf113 rfl (Nat.le_of_ble_eq_true rfl) (ent_all _), ⟨_, _, rfl, rfl, rfl⟩⟩ ⟨_, _, r27, sv28, entU_ok hu6 hu17 hu29 hc34, hr30, (by omega), rfl, rfl⟩ sb (fun e he => Or.symm ((ownC (.inr (by simp [keys])) (oC hX24)) e he)))))
end Go.Proofs.YtmjmaloapafnlaaGreatDoor
