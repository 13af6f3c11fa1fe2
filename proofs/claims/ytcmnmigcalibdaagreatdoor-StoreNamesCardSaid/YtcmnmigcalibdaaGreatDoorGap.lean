import Derived.Test.YtcmnmigcalibdaaGreatDoorGao
namespace Go.Proofs.YtcmnmigcalibdaaGreatDoor
open Go.Proofs.Tryz
open Go Go.Mv
set_option maxRecDepth 8000
theorem c_gRaw (HX : Mem) (s : Nat) (sv : Value) (ys : List UInt8) (n : Nat) (w : World) (hb : Rdb HX sv ys) (hlen : ys.length ≤ 1000000) (hw : Hp ((s, .cells #[sv] 178 (0, 0)) :: HX) w) : Calls Tryz.prog 104 #[.pointer (some ⟨s, 0, none⟩), .int .i64 (n : Int)] w (Ret w (keys ((s, .cells #[sv] 178 (0, 0)) :: HX)) fun v H1 => (∃ b r sv' st', rawD n ys = .ok b r ∧ BldOk 1 (byteC) b st' ∧ Rdb HX sv' r ∧ r.length ≤ ys.length ∧ v = .tuple #[bldVx b st', .int .i64 0] ∧ H1 = (bldMx 5 (byteC) b st' ++ ((s, .cells #[sv'] 178 (0, 0)) :: HX))) ∨ (∃ e sv' r, rawD n ys = .err e ∧ e ≠ 0 ∧ Rdb HX sv' r ∧ r.length ≤ ys.length ∧ v = .tuple #[.slice none 0 0, .int .i64 e] ∧ H1 = ((s, .cells #[sv'] 178 (0, 0)) :: HX))) := by
  refine (c_raw HX s n sv ys w hb (by omega) hw).mono ?_
  rintro e w' ⟨v, H1, rfl, ⟨b, r, v', x, H2, hd, rfl, hret, rfl, hr, hrl⟩ | ⟨e, v', r, hd, he, rfl, rfl, hr, hrl⟩, h3⟩
  · obtain ⟨st, h1, rfl, rfl⟩ := hret.bld
    rw [← bldMx_b] at h3
    exact ⟨_, _, rfl, .inl ⟨b, r, v', st, hd, BldOk.of_snk h1, hr, hrl, by rw [bldVx_b], rfl⟩, h3⟩
  · exact ⟨_, _, rfl, .inr ⟨e, v', r, hd, he, hr, hrl, rfl, rfl⟩, h3⟩
theorem c_gBytes (HX : Mem) (s : Nat) (sv : Value) (ys : List UInt8) (n : Nat) (w : World) (hb : Rdb HX sv ys) (hlen : ys.length ≤ 1000000) (hn : n ≤ 9223372036854775807) (hw : Hp ((s, .cells #[sv] 178 (0, 0)) :: HX) w) : Calls Tryz.prog 127 #[.pointer (some ⟨s, 0, none⟩), .int .i64 (n : Int)] w (Ret w (keys ((s, .cells #[sv] 178 (0, 0)) :: HX)) fun v H1 => (∃ b r sv' st', bytesD n ys = .ok b r ∧ BldOk 1 (byteC) b st' ∧ Rdb HX sv' r ∧ r.length ≤ ys.length ∧ v = .tuple #[bldVx b st', .int .i64 0] ∧ H1 = (bldMx 5 (byteC) b st' ++ ((s, .cells #[sv'] 178 (0, 0)) :: HX))) ∨ (∃ e sv' r, bytesD n ys = .err e ∧ e ≠ 0 ∧ Rdb HX sv' r ∧ r.length ≤ ys.length ∧ v = .tuple #[.slice none 0 0, .int .i64 e] ∧ H1 = ((s, .cells #[sv'] 178 (0, 0)) :: HX))) := by
  refine (c_bytes HX s n sv ys w hb (by omega) hn hw).mono ?_
  rintro e w' ⟨v, H1, rfl, ⟨b, r, v', x, H2, hd, rfl, hret, rfl, hr, hrl⟩ | ⟨e, v', r, hd, he, rfl, rfl, hr, hrl⟩, h3⟩
  · obtain ⟨st, h1, rfl, rfl⟩ := hret.bld
    rw [← bldMx_b] at h3
    exact ⟨_, _, rfl, .inl ⟨b, r, v', st, hd, BldOk.of_snk h1, hr, hrl, by rw [bldVx_b], rfl⟩, h3⟩
  · exact ⟨_, _, rfl, .inr ⟨e, v', r, hd, he, hr, hrl, rfl, rfl⟩, h3⟩
theorem c_gNum (HX : Mem) (s : Nat) (sv : Value) (ys : List UInt8) (n : Nat) (w : World) (hb : Rdb HX sv ys) (hlen : ys.length ≤ 1000000) (hn : n < 18446744073709551616) (hw : Hp ((s, .cells #[sv] 178 (0, 0)) :: HX) w) : Calls Tryz.prog 161 #[.pointer (some ⟨s, 0, none⟩), .int .u64 (n : Int)] w (Ret w (keys ((s, .cells #[sv] 178 (0, 0)) :: HX)) fun v H1 => (∃ x r sv', numD n ys = .ok x r ∧ Rdb HX sv' r ∧ r.length ≤ ys.length ∧ v = .tuple #[.int .u64 (x : Int), .int .i64 0] ∧ H1 = ((s, .cells #[sv'] 178 (0, 0)) :: HX)) ∨ (∃ e sv' r, numD n ys = .err e ∧ e ≠ 0 ∧ Rdb HX sv' r ∧ r.length ≤ ys.length ∧ v = .tuple #[.int .u64 0, .int .i64 e] ∧ H1 = ((s, .cells #[sv'] 178 (0, 0)) :: HX))) := by
  refine (c_num HX s n sv ys w hb (by omega) hn hw).mono ?_
  rintro e w' ⟨v, H1, rfl, ⟨x, r, v', hd, rfl, rfl, hr, hrl⟩ | ⟨e, v', r, hd, he, rfl, rfl, hr, hrl⟩, h3⟩
  · exact ⟨_, _, rfl, .inl ⟨x, r, v', hd, hr, hrl, rfl, rfl⟩, h3⟩
  · exact ⟨_, _, rfl, .inr ⟨e, v', r, hd, he, hr, hrl, rfl, rfl⟩, h3⟩

theorem own_k2 {a b : Nat × Obj} {HX : Mem} {m : Nat} : ∀ e ∈ HX, m ≤ e.1 ∨ e.1 ∈ keys (a :: b :: HX) := fun e he => .inr (mem_keys.2 ⟨e, by simp [he], rfl⟩)
def stO (ys : List UInt8) (wr : Bool) : Option (List UInt8) := if wr then none else some ys
def getM {α : Type} (z : α) (d : List UInt8 → Dr α) : Option (List UInt8) → α × Option (List UInt8)
  | none => (z, none)
  | some ys => match d ys with
    | .ok x r => (x, some r)
    | .err _ => (z, none)
theorem getM_ok {α : Type} {z x : α} {d : List UInt8 → Dr α} {ys r : List UInt8} (h : d ys = .ok x r) : getM z d (stO ys false) = (x, stO r false) := by simp [getM, stO, h]
theorem getM_err {α : Type} {z : α} {e : Int} {d : List UInt8 → Dr α} {ys r : List UInt8} (h : d ys = .err e) : getM z d (stO ys false) = (z, stO r true) := by simp [getM, stO, h]
theorem c_getRaw (rd : Nat) (s2 : Nat) (sv : Value) (ys : List UInt8) (wr : Bool) (n : Nat) (HX : Mem) (w : World) (hby : Rdb HX sv ys) (hly : ys.length ≤ 1000000) (hn : n ≤ 1000000) (hH : Hp ((rd, .cells #[.pointer (some ⟨s2, 0, none⟩), .bool wr] 211 (0, 0)) :: (s2, .cells #[sv] 178 (0, 0)) :: HX) w) : Calls Tryz.prog 126 #[.pointer (some ⟨rd, 0, none⟩), .func (.func 104) #[.pointer (some ⟨s2, 0, none⟩)] #[], .int .i64 (n : Int)] w (Ret w (keys ((rd, .cells #[.pointer (some ⟨s2, 0, none⟩), .bool wr] 211 (0, 0)) :: (s2, .cells #[sv] 178 (0, 0)) :: HX)) fun v H1 => ∃ wr' ys' sv' st', Rdb HX sv' ys' ∧ ys'.length ≤ ys.length ∧ (getM [] (rawD n) (stO ys wr)).2 = stO ys' wr' ∧ BldOk 1 (byteC) (getM [] (rawD n) (stO ys wr)).1 st' ∧ v = bldVx (getM [] (rawD n) (stO ys wr)).1 st' ∧ H1 = (rd, .cells #[.pointer (some ⟨s2, 0, none⟩), .bool wr'] 211 (0, 0)) :: (s2, .cells #[sv'] 178 (0, 0)) :: (bldMx 5 (byteC) (getM [] (rawD n) (stO ys wr)).1 st' ++ HX)) := by
 refine fn_enter (args := [_, _, _]) func126 rfl ntmps126 rfl hH (sq (pl (qa rfl (n0 (sq (pl (qa rfl (n0 (sq ?_)))))))))
 refine sq (pl (qm rfl (qn rfl (qq rfl (RD.fieldAddr (o := 1) runUnderlying211 rfl rfl sizeOf4 rfl) (ql rfl (RD.load (i := 0) isAgg4 rfl rfl rfl) (n0 (pn_cond rfl (fun hc1 => ?_) (fun hc1 => ?_))))))))
 ·refine sq (pl (qm rfl (qa rfl (n0 (rt ?_)))))
  have hg2 : (getM [] (rawD n) (stO ys wr)) = ([], stO ys wr) := (by rw [hc1]; rfl)
  exact dS ((rd, .cells #[.pointer (some ⟨s2, 0, none⟩), .bool wr] 211 (0, 0)) :: (s2, .cells #[sv] 178 (0, 0)) :: HX) rfl rfl ⟨wr, ys, sv, none, hby, (Nat.le_refl _), (by rw [hg2]), (by rw [hg2]; exact (show BldOk 1 byteC [] none from rfl)), (by rw [hg2]; rfl), (by rw [hg2]; rfl)⟩ (ownC (.inr (by simp [keys])) (ownC (.inr (by simp [keys])) own_k2))
 ·refine sk (sq (pl (qm rfl (qm rfl (cM ((s2, .cells #[sv] 178 (0, 0)) :: HX) [(rd, .cells #[.pointer (some ⟨s2, 0, none⟩), .bool wr] 211 (0, 0))] rfl call104 (ownC (.inr (by simp [keys])) own_k2) (fun w hw => c_gRaw HX s2 sv ys n w hby.s hly hw.s) ?_)))))
  rintro v15 H16 (⟨x12, r4, sv5, st6, hd7, hbo10, hr8, hrl9, rfl, rfl⟩ | ⟨e13, sv5, r4, hd7, hne14, hr8, hrl9, rfl, rfl⟩) hX17
  ·have hRD11 := hbo10.rdx (u := 5) byteC_len; refine TE_sp ((s2, .cells #[sv5] 178 (0, 0)) :: (rd, .cells #[.pointer (some ⟨s2, 0, none⟩), .bool wr] 211 (0, 0)) :: ((bldMx 5 byteC x12 st6) ++ HX)) (fun a => by simp -failIfUnchanged <;> omega) ?_
   refine qm rfl (qe rfl (qe rfl (qa rfl (qa rfl (n0 (sq (sq (pl (qm rfl ?_)))))))))
   refine qm rfl (qq rfl (RD.as (v := .bool false) (RD.neq rfl rfl) rfl) (qn rfl (qq rfl (RD.fieldAddr (o := 1) runUnderlying211 rfl rfl sizeOf4 rfl) (TE_storeC 1 _ _ ((s2, .cells #[sv5] 178 (0, 0)) :: (rd, .cells #[.pointer (some ⟨s2, 0, none⟩), .bool false] 211 (0, 0)) :: ((bldMx 5 byteC x12 st6) ++ HX)) rfl sizeOf4 trivial rfl rfl rfl rfl rfl rfl rfl rfl (.inr (by simp [keys])) (n0 (sq (pl (qm rfl (qn rfl ?_)))))))))
   refine qq rfl (RD.fieldAddr (o := 1) runUnderlying211 rfl rfl sizeOf4 rfl) (ql rfl (RD.load (i := 1) isAgg4 rfl rfl rfl) (n0 (pn_condF rfl (sk (sq (pl (qm rfl (qa rfl (n0 ?_)))))))))
   refine rt ?_
   have hg18 : (getM [] (rawD n) (stO ys wr)) = (x12, stO r4 false) := (by rw [hc1]; exact getM_ok hd7)
   exact dS ((rd, .cells #[.pointer (some ⟨s2, 0, none⟩), .bool false] 211 (0, 0)) :: (s2, .cells #[sv5] 178 (0, 0)) :: ((bldMx 5 byteC x12 st6) ++ HX)) rfl rfl ⟨false, r4, sv5, st6, hr8, hrl9, (by rw [hg18]), (by rw [hg18]; exact hbo10), (by rw [hg18]; rfl), (by rw [hg18])⟩ (ownC (.inr (by simp [keys])) (ownC (.inr (by simp [keys])) (ownA (oL hX17) (oC (oR hX17)))))
  ·refine tsp ((s2, .cells #[sv5] 178 (0, 0)) :: (rd, .cells #[.pointer (some ⟨s2, 0, none⟩), .bool wr] 211 (0, 0)) :: HX) (qm rfl (qe rfl (qe rfl (qa rfl (qa rfl (n0 (sq (sq (pl ?_)))))))))
   refine qm rfl (qm rfl (qq rfl (RD.as (v := .bool true) (RD.neq rfl rfl) (congrArg Value.bool (by simp [hne14]))) (qn rfl (qq rfl (RD.fieldAddr (o := 1) runUnderlying211 rfl rfl sizeOf4 rfl) (TE_storeC 1 _ _ ((s2, .cells #[sv5] 178 (0, 0)) :: (rd, .cells #[.pointer (some ⟨s2, 0, none⟩), .bool true] 211 (0, 0)) :: HX) rfl sizeOf4 trivial rfl rfl rfl rfl rfl rfl rfl rfl (.inr (by simp [keys])) (n0 (sq (pl (qm rfl ?_)))))))))
   refine qn rfl (qq rfl (RD.fieldAddr (o := 1) runUnderlying211 rfl rfl sizeOf4 rfl) (ql rfl (RD.load (i := 1) isAgg4 rfl rfl rfl) (n0 (pn_condT rfl (sq (pl (qm rfl (qa rfl (n0 ?_)))))))))
   refine rt ?_
   have hg19 : (getM [] (rawD n) (stO ys wr)) = ([], stO r4 true) := (by rw [hc1]; exact getM_err hd7)
   exact dS ((rd, .cells #[.pointer (some ⟨s2, 0, none⟩), .bool true] 211 (0, 0)) :: (s2, .cells #[sv5] 178 (0, 0)) :: HX) rfl rfl ⟨true, r4, sv5, none, hr8, hrl9, (by rw [hg19]), (by rw [hg19]; exact (show BldOk 1 byteC [] none from rfl)), (by rw [hg19]; rfl), (by rw [hg19]; rfl)⟩ (ownC (.inr (by simp [keys])) (ownC (.inr (by simp [keys])) (oC hX17)))
theorem c_getBytes (rd : Nat) (s2 : Nat) (sv : Value) (ys : List UInt8) (wr : Bool) (n : Nat) (HX : Mem) (w : World) (hby : Rdb HX sv ys) (hly : ys.length ≤ 1000000) (hn : n ≤ 1000000) (hH : Hp ((rd, .cells #[.pointer (some ⟨s2, 0, none⟩), .bool wr] 211 (0, 0)) :: (s2, .cells #[sv] 178 (0, 0)) :: HX) w) : Calls Tryz.prog 126 #[.pointer (some ⟨rd, 0, none⟩), .func (.func 127) #[.pointer (some ⟨s2, 0, none⟩)] #[], .int .i64 (n : Int)] w (Ret w (keys ((rd, .cells #[.pointer (some ⟨s2, 0, none⟩), .bool wr] 211 (0, 0)) :: (s2, .cells #[sv] 178 (0, 0)) :: HX)) fun v H1 => ∃ wr' ys' sv' st', Rdb HX sv' ys' ∧ ys'.length ≤ ys.length ∧ (getM [] (bytesD n) (stO ys wr)).2 = stO ys' wr' ∧ BldOk 1 (byteC) (getM [] (bytesD n) (stO ys wr)).1 st' ∧ v = bldVx (getM [] (bytesD n) (stO ys wr)).1 st' ∧ H1 = (rd, .cells #[.pointer (some ⟨s2, 0, none⟩), .bool wr'] 211 (0, 0)) :: (s2, .cells #[sv'] 178 (0, 0)) :: (bldMx 5 (byteC) (getM [] (bytesD n) (stO ys wr)).1 st' ++ HX)) := by
 refine fn_enter (args := [_, _, _]) func126 rfl ntmps126 rfl hH (sq (pl (qa rfl (n0 (sq (pl (qa rfl (n0 (sq ?_)))))))))
 refine sq (pl (qm rfl (qn rfl (qq rfl (RD.fieldAddr (o := 1) runUnderlying211 rfl rfl sizeOf4 rfl) (ql rfl (RD.load (i := 0) isAgg4 rfl rfl rfl) (n0 (pn_cond rfl (fun hc1 => ?_) (fun hc1 => ?_))))))))
 ·refine sq (pl (qm rfl (qa rfl (n0 (rt ?_)))))
  have hg2 : (getM [] (bytesD n) (stO ys wr)) = ([], stO ys wr) := (by rw [hc1]; rfl)
  exact dS ((rd, .cells #[.pointer (some ⟨s2, 0, none⟩), .bool wr] 211 (0, 0)) :: (s2, .cells #[sv] 178 (0, 0)) :: HX) rfl rfl ⟨wr, ys, sv, none, hby, (Nat.le_refl _), (by rw [hg2]), (by rw [hg2]; exact (show BldOk 1 byteC [] none from rfl)), (by rw [hg2]; rfl), (by rw [hg2]; rfl)⟩ (ownC (.inr (by simp [keys])) (ownC (.inr (by simp [keys])) own_k2))
 ·refine sk (sq (pl (qm rfl (qm rfl (cM ((s2, .cells #[sv] 178 (0, 0)) :: HX) [(rd, .cells #[.pointer (some ⟨s2, 0, none⟩), .bool wr] 211 (0, 0))] rfl call127 (ownC (.inr (by simp [keys])) own_k2) (fun w hw => c_gBytes HX s2 sv ys n w hby.s hly (by omega) hw.s) ?_)))))
  rintro v15 H16 (⟨x12, r4, sv5, st6, hd7, hbo10, hr8, hrl9, rfl, rfl⟩ | ⟨e13, sv5, r4, hd7, hne14, hr8, hrl9, rfl, rfl⟩) hX17
  ·have hRD11 := hbo10.rdx (u := 5) byteC_len; refine TE_sp ((s2, .cells #[sv5] 178 (0, 0)) :: (rd, .cells #[.pointer (some ⟨s2, 0, none⟩), .bool wr] 211 (0, 0)) :: ((bldMx 5 byteC x12 st6) ++ HX)) (fun a => by simp -failIfUnchanged <;> omega) ?_
   refine qm rfl (qe rfl (qe rfl (qa rfl (qa rfl (n0 (sq (sq (pl (qm rfl ?_)))))))))
   refine qm rfl (qq rfl (RD.as (v := .bool false) (RD.neq rfl rfl) rfl) (qn rfl (qq rfl (RD.fieldAddr (o := 1) runUnderlying211 rfl rfl sizeOf4 rfl) (TE_storeC 1 _ _ ((s2, .cells #[sv5] 178 (0, 0)) :: (rd, .cells #[.pointer (some ⟨s2, 0, none⟩), .bool false] 211 (0, 0)) :: ((bldMx 5 byteC x12 st6) ++ HX)) rfl sizeOf4 trivial rfl rfl rfl rfl rfl rfl rfl rfl (.inr (by simp [keys])) (n0 (sq (pl (qm rfl (qn rfl ?_)))))))))
   refine qq rfl (RD.fieldAddr (o := 1) runUnderlying211 rfl rfl sizeOf4 rfl) (ql rfl (RD.load (i := 1) isAgg4 rfl rfl rfl) (n0 (pn_condF rfl (sk (sq (pl (qm rfl (qa rfl (n0 ?_)))))))))
   refine rt ?_
   have hg18 : (getM [] (bytesD n) (stO ys wr)) = (x12, stO r4 false) := (by rw [hc1]; exact getM_ok hd7)
   exact dS ((rd, .cells #[.pointer (some ⟨s2, 0, none⟩), .bool false] 211 (0, 0)) :: (s2, .cells #[sv5] 178 (0, 0)) :: ((bldMx 5 byteC x12 st6) ++ HX)) rfl rfl ⟨false, r4, sv5, st6, hr8, hrl9, (by rw [hg18]), (by rw [hg18]; exact hbo10), (by rw [hg18]; rfl), (by rw [hg18])⟩ (ownC (.inr (by simp [keys])) (ownC (.inr (by simp [keys])) (ownA (oL hX17) (oC (oR hX17)))))
  ·refine tsp ((s2, .cells #[sv5] 178 (0, 0)) :: (rd, .cells #[.pointer (some ⟨s2, 0, none⟩), .bool wr] 211 (0, 0)) :: HX) (qm rfl (qe rfl (qe rfl (qa rfl (qa rfl (n0 (sq (sq (pl ?_)))))))))
   refine qm rfl (qm rfl (qq rfl (RD.as (v := .bool true) (RD.neq rfl rfl) (congrArg Value.bool (by simp [hne14]))) (qn rfl (qq rfl (RD.fieldAddr (o := 1) runUnderlying211 rfl rfl sizeOf4 rfl) (TE_storeC 1 _ _ ((s2, .cells #[sv5] 178 (0, 0)) :: (rd, .cells #[.pointer (some ⟨s2, 0, none⟩), .bool true] 211 (0, 0)) :: HX) rfl sizeOf4 trivial rfl rfl rfl rfl rfl rfl rfl rfl (.inr (by simp [keys])) (n0 (sq (pl (qm rfl ?_)))))))))
   refine qn rfl (qq rfl (RD.fieldAddr (o := 1) runUnderlying211 rfl rfl sizeOf4 rfl) (ql rfl (RD.load (i := 1) isAgg4 rfl rfl rfl) (n0 (pn_condT rfl (sq (pl (qm rfl (qa rfl (n0 ?_)))))))))
   refine rt ?_
   have hg19 : (getM [] (bytesD n) (stO ys wr)) = ([], stO r4 true) := (by rw [hc1]; exact getM_err hd7)
   exact dS ((rd, .cells #[.pointer (some ⟨s2, 0, none⟩), .bool true] 211 (0, 0)) :: (s2, .cells #[sv5] 178 (0, 0)) :: HX) rfl rfl ⟨true, r4, sv5, none, hr8, hrl9, (by rw [hg19]), (by rw [hg19]; exact (show BldOk 1 byteC [] none from rfl)), (by rw [hg19]; rfl), (by rw [hg19]; rfl)⟩ (ownC (.inr (by simp [keys])) (ownC (.inr (by simp [keys])) (oC hX17)))
theorem c_getNum (rd : Nat) (s2 : Nat) (sv : Value) (ys : List UInt8) (wr : Bool) (n : Nat) (HX : Mem) (w : World) (hby : Rdb HX sv ys) (hly : ys.length ≤ 1000000) (hn : n ≤ 1000000) (hH : Hp ((rd, .cells #[.pointer (some ⟨s2, 0, none⟩), .bool wr] 211 (0, 0)) :: (s2, .cells #[sv] 178 (0, 0)) :: HX) w) : Calls Tryz.prog 174 #[.pointer (some ⟨rd, 0, none⟩), .func (.func 161) #[.pointer (some ⟨s2, 0, none⟩)] #[], .int .u64 (n : Int)] w (Ret w (keys ((rd, .cells #[.pointer (some ⟨s2, 0, none⟩), .bool wr] 211 (0, 0)) :: (s2, .cells #[sv] 178 (0, 0)) :: HX)) fun v H1 => ∃ wr' ys' sv', Rdb HX sv' ys' ∧ ys'.length ≤ ys.length ∧ (getM 0 (numD n) (stO ys wr)).2 = stO ys' wr' ∧ v = .int .u64 (((getM 0 (numD n) (stO ys wr)).1 : Nat) : Int) ∧ H1 = (rd, .cells #[.pointer (some ⟨s2, 0, none⟩), .bool wr'] 211 (0, 0)) :: (s2, .cells #[sv'] 178 (0, 0)) :: HX) := by
 refine fn_enter (args := [_, _, _]) func174 rfl ntmps174 rfl hH (sq (pl (qa rfl (n0 (sq (pl (qa rfl (n0 (sq ?_)))))))))
 refine sq (pl (qm rfl (qn rfl (qq rfl (RD.fieldAddr (o := 1) runUnderlying211 rfl rfl sizeOf4 rfl) (ql rfl (RD.load (i := 0) isAgg4 rfl rfl rfl) (n0 (pn_cond rfl (fun hc1 => ?_) (fun hc1 => ?_))))))))
 ·refine sq (pl (qm rfl (qa rfl (n0 (rt ?_)))))
  have hg2 : (getM 0 (numD n) (stO ys wr)) = (0, stO ys wr) := (by rw [hc1]; rfl)
  exact dS ((rd, .cells #[.pointer (some ⟨s2, 0, none⟩), .bool wr] 211 (0, 0)) :: (s2, .cells #[sv] 178 (0, 0)) :: HX) rfl rfl ⟨wr, ys, sv, hby, (Nat.le_refl _), (by rw [hg2]), (by rw [hg2]; rfl), rfl⟩ (ownC (.inr (by simp [keys])) (ownC (.inr (by simp [keys])) own_k2))
 ·refine sk (sq (pl (qm rfl (qm rfl (cM ((s2, .cells #[sv] 178 (0, 0)) :: HX) [(rd, .cells #[.pointer (some ⟨s2, 0, none⟩), .bool wr] 211 (0, 0))] rfl call161 (ownC (.inr (by simp [keys])) own_k2) (fun w hw => c_gNum HX s2 sv ys n w hby.s hly (by omega) hw.s) ?_)))))
  rintro v15 H16 (⟨x12, r4, sv5, hd7, hr8, hrl9, rfl, rfl⟩ | ⟨e13, sv5, r4, hd7, hne14, hr8, hrl9, rfl, rfl⟩) hX17
  ·refine tsp ((s2, .cells #[sv5] 178 (0, 0)) :: (rd, .cells #[.pointer (some ⟨s2, 0, none⟩), .bool wr] 211 (0, 0)) :: HX) (qm rfl (qe rfl (qe rfl (qa rfl (qa rfl (n0 (sq (sq (pl ?_)))))))))
   refine qm rfl (qm rfl (qq rfl (RD.as (v := .bool false) (RD.neq rfl rfl) rfl) (qn rfl (qq rfl (RD.fieldAddr (o := 1) runUnderlying211 rfl rfl sizeOf4 rfl) (TE_storeC 1 _ _ ((s2, .cells #[sv5] 178 (0, 0)) :: (rd, .cells #[.pointer (some ⟨s2, 0, none⟩), .bool false] 211 (0, 0)) :: HX) rfl sizeOf4 trivial rfl rfl rfl rfl rfl rfl rfl rfl (.inr (by simp [keys])) (n0 (sq (pl (qm rfl ?_)))))))))
   refine qn rfl (qq rfl (RD.fieldAddr (o := 1) runUnderlying211 rfl rfl sizeOf4 rfl) (ql rfl (RD.load (i := 1) isAgg4 rfl rfl rfl) (n0 (pn_condF rfl (sk (sq (pl (qm rfl (qa rfl ?_)))))))))
   refine n0 (rt ?_)
   have hg18 : (getM 0 (numD n) (stO ys wr)) = (x12, stO r4 false) := (by rw [hc1]; exact getM_ok hd7)
   exact dS ((rd, .cells #[.pointer (some ⟨s2, 0, none⟩), .bool false] 211 (0, 0)) :: (s2, .cells #[sv5] 178 (0, 0)) :: HX) rfl rfl ⟨false, r4, sv5, hr8, hrl9, (by rw [hg18]), (by rw [hg18]; rfl), rfl⟩ (ownC (.inr (by simp [keys])) (ownC (.inr (by simp [keys])) (oC hX17)))
  ·refine tsp ((s2, .cells #[sv5] 178 (0, 0)) :: (rd, .cells #[.pointer (some ⟨s2, 0, none⟩), .bool wr] 211 (0, 0)) :: HX) (qm rfl (qe rfl (qe rfl (qa rfl (qa rfl (n0 (sq (sq (pl ?_)))))))))
   refine qm rfl (qm rfl (qq rfl (RD.as (v := .bool true) (RD.neq rfl rfl) (congrArg Value.bool (by simp [hne14]))) (qn rfl (qq rfl (RD.fieldAddr (o := 1) runUnderlying211 rfl rfl sizeOf4 rfl) (TE_storeC 1 _ _ ((s2, .cells #[sv5] 178 (0, 0)) :: (rd, .cells #[.pointer (some ⟨s2, 0, none⟩), .bool true] 211 (0, 0)) :: HX) rfl sizeOf4 trivial rfl rfl rfl rfl rfl rfl rfl rfl (.inr (by simp [keys])) (n0 (sq (pl (qm rfl ?_)))))))))
   refine qn rfl (qq rfl (RD.fieldAddr (o := 1) runUnderlying211 rfl rfl sizeOf4 rfl) (ql rfl (RD.load (i := 1) isAgg4 rfl rfl rfl) (n0 (pn_condT rfl (sq (pl (qm rfl (qa rfl (n0 ?_)))))))))
   refine rt ?_
   have hg19 : (getM 0 (numD n) (stO ys wr)) = (0, stO r4 true) := (by rw [hc1]; exact getM_err hd7)
   exact dS ((rd, .cells #[.pointer (some ⟨s2, 0, none⟩), .bool true] 211 (0, 0)) :: (s2, .cells #[sv5] 178 (0, 0)) :: HX) rfl rfl ⟨true, r4, sv5, hr8, hrl9, (by rw [hg19]), (by rw [hg19]; rfl), rfl⟩ (ownC (.inr (by simp [keys])) (ownC (.inr (by simp [keys])) (oC hX17)))
def oneZ (l : List UInt8) : Int := if l.length = 0 then 0 else ((gt l 0).toNat : Int)
def oneM (o : Option (List UInt8)) : Int × Option (List UInt8) := (oneZ (getM [] (rawD 1) o).1, (getM [] (rawD 1) o).2)
theorem oneZ_0 {l : List UInt8} (h : (l.length : Int) = 0) : (0 : Int) = oneZ l := by rw [oneZ, if_pos (by omega)]
theorem oneZ_1 {l : List UInt8} (h : ¬ (l.length : Int) = 0) : ((gt l 0).toNat : Int) = oneZ l := by rw [oneZ, if_neg (by omega)]
theorem getRaw_len {n : Nat} {o : Option (List UInt8)} : (getM [] (rawD n) o).1.length ≤ n := by
  cases o with
  | none => simp [getM]
  | some ys =>
    simp only [getM, rawD]
    split
    · rename_i h; split at h
      · cases h
      · cases h; simp; omega
    · simp

theorem c_rdOne (rd : Nat) (s2 : Nat) (sv : Value) (ys : List UInt8) (wr : Bool) (HX : Mem) (w : World) (hby : Rdb HX sv ys) (hly : ys.length ≤ 1000000) (hH : Hp ((rd, .cells #[.pointer (some ⟨s2, 0, none⟩), .bool wr] 211 (0, 0)) :: (s2, .cells #[sv] 178 (0, 0)) :: HX) w) : Calls Tryz.prog 124 #[.pointer (some ⟨rd, 0, none⟩)] w (Ret w (keys ((rd, .cells #[.pointer (some ⟨s2, 0, none⟩), .bool wr] 211 (0, 0)) :: (s2, .cells #[sv] 178 (0, 0)) :: HX)) fun v H1 => ∃ wr' ys' sv', Rdb HX sv' ys' ∧ ys'.length ≤ ys.length ∧ (oneM (stO ys wr)).2 = stO ys' wr' ∧ v = .int .i64 (oneM (stO ys wr)).1 ∧ H1 = (rd, .cells #[.pointer (some ⟨s2, 0, none⟩), .bool wr'] 211 (0, 0)) :: (s2, .cells #[sv'] 178 (0, 0)) :: HX) := by
 refine fn_enter (args := [_]) func124 rfl ntmps124 rfl hH (sq (pl (qa rfl (n0 (sq (pl (qm rfl (qn rfl (qq rfl (RD.fieldAddr (o := 0) runUnderlying211 rfl rfl sizeOf85 rfl) ?_)))))))))
 refine ql rfl (RD.load (i := 0) isAgg85 rfl rfl rfl) (qq rfl (RD.makeFunc rfl rfl) (qa rfl (n0 (sq (pl (qm rfl (qm rfl (cM ((rd, .cells #[.pointer (some ⟨s2, 0, none⟩), .bool wr] 211 (0, 0)) :: (s2, .cells #[sv] 178 (0, 0)) :: HX) [] rfl call126 (ownC (.inr (by simp [keys])) (ownC (.inr (by simp [keys])) own_k2)) (fun w hw => c_getRaw rd s2 sv ys wr 1 HX w hby.s hly (by first | assumption | omega | (simp; done) | (simp; omega)) hw.s) ?_))))))))
 rintro v11 H12 ⟨wr5, ys6, sv7, st2, hr8, hrl9, hg10, hbo3, rfl, rfl⟩ hX4
 have hRD1 := hbo3.rdx (u := 5) byteC_len
 refine tsp ((rd, .cells #[.pointer (some ⟨s2, 0, none⟩), .bool wr5] 211 (0, 0)) :: (s2, .cells #[sv7] 178 (0, 0)) :: ((bldMx 5 (byteC) (getM [] (rawD 1) (stO ys wr)).1 st2) ++ HX)) (qa rfl (n0 (sq (sq (pn_plain [1] rfl (qm rfl (qq rfl (RD.lenX runUnderlying32 rfl hRD1) (qq rfl (RD.eql rfl rfl) (n0 ?_)))))))))
 refine pn_condD rfl (fun hc13 => ?_) (fun hc13 => ?_)
 ·exact sq (plG [] ((rd, .cells #[.pointer (some ⟨s2, 0, none⟩), .bool wr5] 211 (0, 0)) :: (s2, .cells #[sv7] 178 (0, 0)) :: HX) (qa rfl (n0 (rt (dS ((rd, .cells #[.pointer (some ⟨s2, 0, none⟩), .bool wr5] 211 (0, 0)) :: (s2, .cells #[sv7] 178 (0, 0)) :: HX) rfl rfl ⟨wr5, ys6, sv7, hr8, hrl9, hg10, (congrArg (Value.int .i64) (oneZ_0 hc13)), rfl⟩ (ownC (.inr (by simp [keys])) (ownC (.inr (by simp [keys])) (oR (oC (oC hX4))))))))))
 ·refine sk (sq (pn_plain [3] rfl (qm rfl (qq rfl (RD.idxR (i := 0) (o := (0 * 1 + 0)) runUnderlying32 sizeOf5 rfl hRD1 rfl rfl (by omega) (by rfl)) (ql rfl (RD.ldR (i := 0) (j := 0) (u := .int .u8 ((gt ((getM [] (rawD 1) (stO ys wr)).1) 0).toNat : Int)) isAgg5 rfl hRD1 (gt_some (by omega)) (by rfl) rfl sb) (qq rfl (RD.convI runUnderlying5 runUnderlying3 rfl (by omega) (by have h9 := UInt8.toNat_lt (gt (getM [] (rawD 1) (stO ys wr)).1 0); omega)) (qa rfl (n0 (rt ?_)))))))))
  exact dS ((rd, .cells #[.pointer (some ⟨s2, 0, none⟩), .bool wr5] 211 (0, 0)) :: (s2, .cells #[sv7] 178 (0, 0)) :: HX) rfl rfl ⟨wr5, ys6, sv7, hr8, hrl9, hg10, (congrArg (Value.int .i64) (oneZ_1 hc13)), rfl⟩ (ownC (.inr (by simp [keys])) (ownC (.inr (by simp [keys])) (oR (oC (oC hX4)))))
theorem put_tip (l : List UInt8) (h : l.length ≤ 32) : putL (idV fun _ => 0).cells 0 (cat byteC l) = (idV (tipOf l)).cells := by
  have hlen : (cat byteC l).length = l.length := by rw [cat_len byteC_len, Nat.mul_one]
  apply Array.ext'
  apply List.ext_getElem?
  intro i
  have hg := get_putL (cat byteC l) (idV fun _ => 0).cells 0 i (by rw [hlen]; show 0 + l.length ≤ 32; omega)
  rw [← Array.getElem?_toList] at hg
  rw [hg, hlen]
  by_cases hi : i < 32
  · have h2 := id_at (tipOf l) hi
    rw [← Array.getElem?_toList] at h2
    rw [h2]
    split
    · rename_i h1
      have hj : i < l.length := by omega
      rw [show i - 0 = i * 1 + 0 by omega, cat_get byteC_len l i 0 (l.getD i 0) (by rw [List.getD_eq_getElem?_getD, List.getElem?_eq_getElem hj]; rfl) (by omega)]
      simp [byteC, bcell, tipOf]
    · rename_i h1
      have h3 := id_at (fun _ => 0) hi
      have h0 : tipOf l i = 0 := by
        have : l.getD i 0 = 0 := by rw [List.getD_eq_getElem?_getD, List.getElem?_eq_none (by omega)]; rfl
        rw [tipOf, this]; rfl
      rw [h0]
      first | exact h3 | (rw [← Array.getElem?_toList] at h3; exact h3)
  · have e1 : (idV (tipOf l)).cells.toList.length = 32 := rfl
    have e2 : (idV fun _ => 0).cells.size = 32 := rfl
    rw [List.getElem?_eq_none (l := (idV (tipOf l)).cells.toList) (by omega)]
    split
    · omega
    · first | exact Array.getElem?_eq_none (by omega) | (rw [Array.getElem?_toList]; exact Array.getElem?_eq_none (by omega)) | exact List.getElem?_eq_none (by rw [Array.length_toList]; omega)
def idM (o : Option (List UInt8)) : (Nat → Int) × Option (List UInt8) := (tipOf (getM [] (rawD 32) o).1, (getM [] (rawD 32) o).2)

theorem c_rdId (rd : Nat) (s2 : Nat) (sv : Value) (ys : List UInt8) (wr : Bool) (HX : Mem) (w : World) (hby : Rdb HX sv ys) (hly : ys.length ≤ 1000000) (hH : Hp ((rd, .cells #[.pointer (some ⟨s2, 0, none⟩), .bool wr] 211 (0, 0)) :: (s2, .cells #[sv] 178 (0, 0)) :: HX) w) : Calls Tryz.prog 130 #[.pointer (some ⟨rd, 0, none⟩)] w (Ret w (keys ((rd, .cells #[.pointer (some ⟨s2, 0, none⟩), .bool wr] 211 (0, 0)) :: (s2, .cells #[sv] 178 (0, 0)) :: HX)) fun v H1 => ∃ wr' ys' sv', Rdb HX sv' ys' ∧ ys'.length ≤ ys.length ∧ (idM (stO ys wr)).2 = stO ys' wr' ∧ v = idV (idM (stO ys wr)).1 ∧ H1 = (rd, .cells #[.pointer (some ⟨s2, 0, none⟩), .bool wr'] 211 (0, 0)) :: (s2, .cells #[sv'] 178 (0, 0)) :: HX) := by
 refine fn_enter (args := [_]) func130 rfl ntmps130 rfl hH (sq (pl (TE_allocC (idV (fun _ => 0)).cells rfl zeroValue35 rfl trivial rfl fun b2 hb2 => (n0 (sq (dG [] ((b2, .cells (idV (fun _ => 0)).cells 35 (0, 0)) :: (rd, .cells #[.pointer (some ⟨s2, 0, none⟩), .bool wr] 211 (0, 0)) :: (s2, .cells #[sv] 178 (0, 0)) :: HX) [] (qq rfl (RD.sliceA runUnderlying35 sizeOf5 rfl rfl (Nat.le_refl _)) (qm rfl (qm rfl ?_)))))))))
 refine qn rfl (qq rfl (RD.fieldAddr (o := 0) runUnderlying211 rfl rfl sizeOf85 rfl) (ql rfl (RD.load (i := 1) isAgg85 rfl rfl rfl) (qq rfl (RD.makeFunc rfl rfl) (cM ((rd, .cells #[.pointer (some ⟨s2, 0, none⟩), .bool wr] 211 (0, 0)) :: (s2, .cells #[sv] 178 (0, 0)) :: HX) [(b2, .cells (idV (fun _ => 0)).cells 35 (0, 0))] rfl call126 (ownC (.inr (by simp [keys])) (ownC (.inr (by simp [keys])) own_k2)) (fun w hw => c_getRaw rd s2 sv ys wr 32 HX w hby.s hly (by first | assumption | omega | (simp; done) | (simp; omega)) hw.s) ?_))))
 rintro v11 H12 ⟨wr5, ys6, sv7, st2, hr8, hrl9, hg10, hbo3, rfl, rfl⟩ hX4
 have hRD1 := hbo3.rdx (u := 5) byteC_len
 exact tsp ((rd, .cells #[.pointer (some ⟨s2, 0, none⟩), .bool wr5] 211 (0, 0)) :: (s2, .cells #[sv7] 178 (0, 0)) :: (b2, .cells (idV (fun _ => 0)).cells 35 (0, 0)) :: ((bldMx 5 (byteC) (getM [] (rawD 32) (stO ys wr)).1 st2) ++ HX)) (TE_copyR 2 ((getM [] (rawD 32) (stO ys wr)).1) (idV (fun _ => 0)).cells (idV (tipOf ((getM [] (rawD 32) (stO ys wr)).1))).cells ((rd, .cells #[.pointer (some ⟨s2, 0, none⟩), .bool wr5] 211 (0, 0)) :: (s2, .cells #[sv7] 178 (0, 0)) :: (b2, .cells (idV (tipOf ((getM [] (rawD 32) (stO ys wr)).1))).cells 35 (0, 0)) :: ((bldMx 5 byteC (getM [] (rawD 32) (stO ys wr)).1 st2) ++ HX)) rfl rfl trivial rfl underlying32 sizeOf5 elByteR byteC_len byteC_one rfl rfl hRD1 sb getRaw_len rfl (by show 0 + _ ≤ 32; have h9 := getRaw_len (n := 32) (o := stO ys wr); omega) (.inl hb2) (put_tip _ getRaw_len) rfl (TE_nil (sq (plG [] ((rd, .cells #[.pointer (some ⟨s2, 0, none⟩), .bool wr5] 211 (0, 0)) :: (s2, .cells #[sv7] 178 (0, 0)) :: (b2, .cells (idV (tipOf ((getM [] (rawD 32) (stO ys wr)).1))).cells 35 (0, 0)) :: HX) (ql rfl (RD.loadA (i := 2) isAgg35 sizeOf35 rfl rfl (Nat.le_of_ble_eq_true rfl) (id_all _)) (TE_putCW 2 _ _ ((rd, .cells #[.pointer (some ⟨s2, 0, none⟩), .bool wr5] 211 (0, 0)) :: (s2, .cells #[sv7] 178 (0, 0)) :: (b2, .cells (idV (tipOf ((getM [] (rawD 32) (stO ys wr)).1))).cells 35 (0, 0)) :: HX) rfl sizeOf35 trivial rfl rfl rfl rfl rfl rfl rfl rfl (.inl hb2) (n0 (rt (pn_doneF rfl ⟨idV (tipOf ((getM [] (rawD 32) (stO ys wr)).1)), _, b2, 0, rfl, rfl, load_agg (i := 2) isAgg35 sizeOf35 rfl (Nat.le_of_ble_eq_true rfl) (id_all _), rfl⟩ ⟨wr5, ys6, sv7, hr8, hrl9, hg10, rfl, rfl⟩ sb (fun e he => Or.symm ((ownC (.inr (by simp [keys])) (ownC (.inr (by simp [keys])) (oR (oC (oC hX4))))) e he)))))))))))
def textM (o : Option (List UInt8)) : ByteArray × Option (List UInt8) := (⟨(getM [] (bytesD 4000) o).1.toArray⟩, (getM [] (bytesD 4000) o).2)

theorem c_text (bc : Nat) (rd : Nat) (s2 : Nat) (sv : Value) (ys : List UInt8) (wr : Bool) (HX : Mem) (w : World) (hby : Rdb HX sv ys) (hly : ys.length ≤ 1000000) (hH : Hp ((bc, .cells #[.pointer (some ⟨rd, 0, none⟩)] 209 (0, 0)) :: (rd, .cells #[.pointer (some ⟨s2, 0, none⟩), .bool wr] 211 (0, 0)) :: (s2, .cells #[sv] 178 (0, 0)) :: HX) w) : Calls Tryz.prog 125 #[.pointer (some ⟨bc, 0, none⟩)] w (Ret w (keys ((rd, .cells #[.pointer (some ⟨s2, 0, none⟩), .bool wr] 211 (0, 0)) :: (s2, .cells #[sv] 178 (0, 0)) :: HX)) fun v H1 => ∃ wr' ys' sv', Rdb HX sv' ys' ∧ ys'.length ≤ ys.length ∧ (textM (stO ys wr)).2 = stO ys' wr' ∧ v = .string (textM (stO ys wr)).1 ∧ H1 = (rd, .cells #[.pointer (some ⟨s2, 0, none⟩), .bool wr'] 211 (0, 0)) :: (s2, .cells #[sv'] 178 (0, 0)) :: HX) := by
 refine fn_enter (args := [_]) func125 rfl ntmps125 rfl hH (sq (pl (qa rfl (n0 (sq (dG [0, 1] ((rd, .cells #[.pointer (some ⟨s2, 0, none⟩), .bool wr] 211 (0, 0)) :: (s2, .cells #[sv] 178 (0, 0)) :: HX) [(bc, .cells #[.pointer (some ⟨rd, 0, none⟩)] 209 (0, 0))] (qq rfl (RD.load (i := 0) isAgg209 rfl rfl rfl) (qq rfl (RD.load (i := 0) isAgg209 rfl rfl rfl) (qn rfl ?_)))))))))
 refine qq rfl (RD.fieldAddr (o := 0) runUnderlying211 rfl rfl sizeOf85 rfl) (ql rfl (RD.load (i := 0) isAgg85 rfl rfl rfl) (qq rfl (RD.makeFunc rfl rfl) (cM ((rd, .cells #[.pointer (some ⟨s2, 0, none⟩), .bool wr] 211 (0, 0)) :: (s2, .cells #[sv] 178 (0, 0)) :: HX) [] rfl call126 (ownC (.inr (by simp [keys])) (ownC (.inr (by simp [keys])) own_k2)) (fun w hw => c_getBytes rd s2 sv ys wr 4000 HX w hby.s hly (by first | assumption | omega | (simp; done) | (simp; omega)) hw.s) ?_)))
 rintro v11 H12 ⟨wr5, ys6, sv7, st2, hr8, hrl9, hg10, hbo3, rfl, rfl⟩ hX4
 have hRD1 := hbo3.rdx (u := 5) byteC_len
 exact tsp ((rd, .cells #[.pointer (some ⟨s2, 0, none⟩), .bool wr5] 211 (0, 0)) :: (s2, .cells #[sv7] 178 (0, 0)) :: ((bldMx 5 (byteC) (getM [] (bytesD 4000) (stO ys wr)).1 st2) ++ HX)) (ql rfl (RD.str_of_bytes underlying32 underlying9 underlying5 rfl (BytesIn.mono ((Rdb.of_x hRD1)).bytes sb)) (qa rfl (TE_nil (rt (dS ((rd, .cells #[.pointer (some ⟨s2, 0, none⟩), .bool wr5] 211 (0, 0)) :: (s2, .cells #[sv7] 178 (0, 0)) :: HX) rfl rfl ⟨wr5, ys6, sv7, hr8, hrl9, hg10, rfl, rfl⟩ (ownC (.inr (by simp [keys])) (ownC (.inr (by simp [keys])) (oR (oC (oC hX4))))))))))
end Go.Proofs.YtcmnmigcalibdaaGreatDoor

namespace Go.Proofs.YtcmnmigcalibdaaGreatDoor
open Go.Proofs.Tryz
open Go Go.Mv
set_option maxRecDepth 8000
def entM (o : Option (List UInt8)) : Ent × Option (List UInt8) := (⟨(textM o).1, (oneM (textM o).2).1, (idM (oneM (textM o).2).2).1⟩, (idM (oneM (textM o).2).2).2)

theorem c_entry (bt : Nat) (bc : Nat) (rd : Nat) (s2 : Nat) (sv : Value) (ys : List UInt8) (wr : Bool) (HX : Mem) (w : World) (hby : Rdb HX sv ys) (hly : ys.length ≤ 1000000) (hH : Hp ((bt, .cells #[.func (.func 125) #[] #[.pointer (some ⟨bc, 0, none⟩)]] 213 (0, 0)) :: (bc, .cells #[.pointer (some ⟨rd, 0, none⟩)] 209 (0, 0)) :: (rd, .cells #[.pointer (some ⟨s2, 0, none⟩), .bool wr] 211 (0, 0)) :: (s2, .cells #[sv] 178 (0, 0)) :: HX) w) : Calls Tryz.prog 129 #[.pointer (some ⟨bt, 0, none⟩), .pointer (some ⟨bc, 0, none⟩)] w (Ret w (keys ((rd, .cells #[.pointer (some ⟨s2, 0, none⟩), .bool wr] 211 (0, 0)) :: (s2, .cells #[sv] 178 (0, 0)) :: HX)) fun v H1 => ∃ wr' ys' sv', Rdb HX sv' ys' ∧ ys'.length ≤ ys.length ∧ (entM (stO ys wr)).2 = stO ys' wr' ∧ v = entV (entM (stO ys wr)).1 ∧ H1 = (rd, .cells #[.pointer (some ⟨s2, 0, none⟩), .bool wr'] 211 (0, 0)) :: (s2, .cells #[sv'] 178 (0, 0)) :: HX) := by
 refine fn_enter (args := [_, _]) func129 rfl ntmps129 rfl hH (sq (pl (TE_allocC (entV (⟨⟨#[]⟩, 0, (fun _ => 0)⟩ : Ent)).cells rfl zeroValue119 rfl trivial rfl fun b2 hb2 => (n0 (sq (pl (ql rfl (RD.load (i := 1) isAgg213 rfl rfl rfl) (cM ((rd, .cells #[.pointer (some ⟨s2, 0, none⟩), .bool wr] 211 (0, 0)) :: (s2, .cells #[sv] 178 (0, 0)) :: HX) [(b2, .cells (entV (⟨⟨#[]⟩, 0, (fun _ => 0)⟩ : Ent)).cells 119 (0, 0)), (bt, .cells #[.func (.func 125) #[] #[.pointer (some ⟨bc, 0, none⟩)]] 213 (0, 0)), (bc, .cells #[.pointer (some ⟨rd, 0, none⟩)] 209 (0, 0))] rfl call125 (ownC (.inr (by simp [keys])) (ownC (.inr (by simp [keys])) own_k2)) (fun w hw => c_text bc rd s2 sv ys wr HX w hby.s hly hw.s) ?_))))))))
 rintro v8 H9 ⟨wr2, ys3, sv4, hr5, hrl6, hg7, rfl, rfl⟩ hX1
 refine tsp ((rd, .cells #[.pointer (some ⟨s2, 0, none⟩), .bool wr2] 211 (0, 0)) :: (s2, .cells #[sv4] 178 (0, 0)) :: (b2, .cells (entV (⟨⟨#[]⟩, 0, (fun _ => 0)⟩ : Ent)).cells 119 (0, 0)) :: (bt, .cells #[.func (.func 125) #[] #[.pointer (some ⟨bc, 0, none⟩)]] 213 (0, 0)) :: (bc, .cells #[.pointer (some ⟨rd, 0, none⟩)] 209 (0, 0)) :: HX) (qa rfl (n0 (sq (dG [1, 3] ((rd, .cells #[.pointer (some ⟨s2, 0, none⟩), .bool wr2] 211 (0, 0)) :: (s2, .cells #[sv4] 178 (0, 0)) :: (b2, .cells (entV (⟨⟨#[]⟩, 0, (fun _ => 0)⟩ : Ent)).cells 119 (0, 0)) :: HX) [(bc, .cells #[.pointer (some ⟨rd, 0, none⟩)] 209 (0, 0))] (qm rfl (qq rfl (RD.load (i := 0) isAgg209 rfl rfl rfl) (cM ((rd, .cells #[.pointer (some ⟨s2, 0, none⟩), .bool wr2] 211 (0, 0)) :: (s2, .cells #[sv4] 178 (0, 0)) :: HX) [(b2, .cells (entV (⟨⟨#[]⟩, 0, (fun _ => 0)⟩ : Ent)).cells 119 (0, 0))] rfl call124 (ownC (.inr (by simp [keys])) (ownC (.inr (by simp [keys])) (oC (oC hX1)))) (fun w hw => c_rdOne rd s2 sv4 ys3 wr2 HX w hr5.s (by first | assumption | omega | (simp; done) | (simp; omega)) hw.s) ?_)))))))
 rintro v17 H18 ⟨wr11, ys12, sv13, hr14, hrl15, hg16, rfl, rfl⟩ hX10
 refine tsp ((rd, .cells #[.pointer (some ⟨s2, 0, none⟩), .bool wr11] 211 (0, 0)) :: (s2, .cells #[sv13] 178 (0, 0)) :: (b2, .cells (entV (⟨⟨#[]⟩, 0, (fun _ => 0)⟩ : Ent)).cells 119 (0, 0)) :: HX) (qq rfl (RD.load (i := 0) isAgg209 rfl rfl rfl) (cM ((rd, .cells #[.pointer (some ⟨s2, 0, none⟩), .bool wr11] 211 (0, 0)) :: (s2, .cells #[sv13] 178 (0, 0)) :: HX) [(b2, .cells (entV (⟨⟨#[]⟩, 0, (fun _ => 0)⟩ : Ent)).cells 119 (0, 0))] rfl call130 (ownC (.inr (by simp [keys])) (ownC (.inr (by simp [keys])) (oC (oC hX10)))) (fun w hw => c_rdId rd s2 sv13 ys12 wr11 HX w hr14.s (by first | assumption | omega | (simp; done) | (simp; omega)) hw.s) ?_))
 rintro v26 H27 ⟨wr20, ys21, sv22, hr23, hrl24, hg25, rfl, rfl⟩ hX19
 exact tsp ((rd, .cells #[.pointer (some ⟨s2, 0, none⟩), .bool wr20] 211 (0, 0)) :: (s2, .cells #[sv22] 178 (0, 0)) :: (b2, .cells (entV (⟨⟨#[]⟩, 0, (fun _ => 0)⟩ : Ent)).cells 119 (0, 0)) :: HX) (qq rfl (RD.build (v := entV (⟨(textM (stO ys wr)).1, (oneM (stO ys3 wr2)).1, (idM (stO ys12 wr11)).1⟩ : Ent)) rfl (fun w => by simp [Instr.build, zeroValue119, runUnderlying119, sizeOf35, sizeOf3, sizeOf9, Value.cells, Instr.fill, entV, idV])) (TE_putCW 2 _ _ ((rd, .cells #[.pointer (some ⟨s2, 0, none⟩), .bool wr20] 211 (0, 0)) :: (s2, .cells #[sv22] 178 (0, 0)) :: (b2, .cells (entV (⟨(textM (stO ys wr)).1, (oneM (stO ys3 wr2)).1, (idM (stO ys12 wr11)).1⟩ : Ent)).cells 119 (0, 0)) :: HX) rfl sizeOf119 trivial rfl rfl rfl rfl rfl rfl rfl rfl (.inl hb2) (TE_nil (rt (psp ((rd, .cells #[.pointer (some ⟨s2, 0, none⟩), .bool wr20] 211 (0, 0)) :: (s2, .cells #[sv22] 178 (0, 0)) :: (b2, .cells (entV (⟨(textM (stO ys wr)).1, (oneM (stO ys3 wr2)).1, (idM (stO ys12 wr11)).1⟩ : Ent)).cells 119 (0, 0)) :: (bc, .cells #[.pointer (some ⟨rd, 0, none⟩)] 209 (0, 0)) :: HX) (pn_doneF rfl ⟨entV (⟨(textM (stO ys wr)).1, (oneM (stO ys3 wr2)).1, (idM (stO ys12 wr11)).1⟩ : Ent), _, b2, 0, rfl, rfl, load_agg (i := 2) isAgg119 sizeOf119 rfl (Nat.le_of_ble_eq_true rfl) (ent_all _), rfl⟩ ⟨wr20, ys21, sv22, hr23, (by omega), (by simp only [entM, hg7, hg16]; exact hg25), (by first | (simp only [entM, hg7, hg16]; done) | (simp only [entM, hg7, hg16]; rfl)), rfl⟩ sb (fun e he => Or.symm ((ownC (.inr (by simp [keys])) (ownC (.inr (by simp [keys])) (oC (oC hX19)))) e he))))))))
end Go.Proofs.YtcmnmigcalibdaaGreatDoor
