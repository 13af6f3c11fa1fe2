import Derived.Test.YtloljpefdecmhaaGreatDoorGau
namespace Go.Proofs.YtloljpefdecmhaaGreatDoor
open Go Go.Mv
set_option maxRecDepth 8000
theorem c_gRaw (HX : Mem) (s : Nat) (sv : Value) (ys : List UInt8) (n : Nat) (w : World) (hb : Rdb HX sv ys) (hlen : ys.length ≤ 1000000) (hw : Hp ((s, .cells #[sv] 180 (0, 0)) :: HX) w) : Calls Tryz.prog 110 #[.pointer (some ⟨s, 0, none⟩), .int .i64 (n : Int)] w (Ret w (keys ((s, .cells #[sv] 180 (0, 0)) :: HX)) fun v H1 => (∃ b r sv' st', rawD n ys = .ok b r ∧ BldOk 1 (byteC) b st' ∧ Rdb HX sv' r ∧ r.length ≤ ys.length ∧ v = .tuple #[bldVx b st', .int .i64 0] ∧ H1 = (bldMx 5 (byteC) b st' ++ ((s, .cells #[sv'] 180 (0, 0)) :: HX))) ∨ (∃ e sv' r, rawD n ys = .err e ∧ e ≠ 0 ∧ Rdb HX sv' r ∧ r.length ≤ ys.length ∧ v = .tuple #[.slice none 0 0, .int .i64 e] ∧ H1 = ((s, .cells #[sv'] 180 (0, 0)) :: HX))) := by
  refine (c_raw HX s n sv ys w hb (by omega) hw).mono ?_
  rintro e w' ⟨v, H1, rfl, ⟨b, r, v', x, H2, hd, rfl, hret, rfl, hr, hrl⟩ | ⟨e, v', r, hd, he, rfl, rfl, hr, hrl⟩, h3⟩
  · obtain ⟨st, h1, rfl, rfl⟩ := hret.bld
    rw [← bldMx_b] at h3
    exact ⟨_, _, rfl, .inl ⟨b, r, v', st, hd, BldOk.of_snk h1, hr, hrl, by rw [bldVx_b], rfl⟩, h3⟩
  · exact ⟨_, _, rfl, .inr ⟨e, v', r, hd, he, hr, hrl, rfl, rfl⟩, h3⟩
theorem c_gBytes (HX : Mem) (s : Nat) (sv : Value) (ys : List UInt8) (n : Nat) (w : World) (hb : Rdb HX sv ys) (hlen : ys.length ≤ 1000000) (hn : n ≤ 9223372036854775807) (hw : Hp ((s, .cells #[sv] 180 (0, 0)) :: HX) w) : Calls Tryz.prog 68 #[.pointer (some ⟨s, 0, none⟩), .int .i64 (n : Int)] w (Ret w (keys ((s, .cells #[sv] 180 (0, 0)) :: HX)) fun v H1 => (∃ b r sv' st', bytesD n ys = .ok b r ∧ BldOk 1 (byteC) b st' ∧ Rdb HX sv' r ∧ r.length ≤ ys.length ∧ v = .tuple #[bldVx b st', .int .i64 0] ∧ H1 = (bldMx 5 (byteC) b st' ++ ((s, .cells #[sv'] 180 (0, 0)) :: HX))) ∨ (∃ e sv' r, bytesD n ys = .err e ∧ e ≠ 0 ∧ Rdb HX sv' r ∧ r.length ≤ ys.length ∧ v = .tuple #[.slice none 0 0, .int .i64 e] ∧ H1 = ((s, .cells #[sv'] 180 (0, 0)) :: HX))) := by
  refine (c_bytes HX s n sv ys w hb (by omega) hn hw).mono ?_
  rintro e w' ⟨v, H1, rfl, ⟨b, r, v', x, H2, hd, rfl, hret, rfl, hr, hrl⟩ | ⟨e, v', r, hd, he, rfl, rfl, hr, hrl⟩, h3⟩
  · obtain ⟨st, h1, rfl, rfl⟩ := hret.bld
    rw [← bldMx_b] at h3
    exact ⟨_, _, rfl, .inl ⟨b, r, v', st, hd, BldOk.of_snk h1, hr, hrl, by rw [bldVx_b], rfl⟩, h3⟩
  · exact ⟨_, _, rfl, .inr ⟨e, v', r, hd, he, hr, hrl, rfl, rfl⟩, h3⟩
theorem c_gNum (HX : Mem) (s : Nat) (sv : Value) (ys : List UInt8) (n : Nat) (w : World) (hb : Rdb HX sv ys) (hlen : ys.length ≤ 1000000) (hn : n < 18446744073709551616) (hw : Hp ((s, .cells #[sv] 180 (0, 0)) :: HX) w) : Calls Tryz.prog 112 #[.pointer (some ⟨s, 0, none⟩), .int .u64 (n : Int)] w (Ret w (keys ((s, .cells #[sv] 180 (0, 0)) :: HX)) fun v H1 => (∃ x r sv', numD n ys = .ok x r ∧ Rdb HX sv' r ∧ r.length ≤ ys.length ∧ v = .tuple #[.int .u64 (x : Int), .int .i64 0] ∧ H1 = ((s, .cells #[sv'] 180 (0, 0)) :: HX)) ∨ (∃ e sv' r, numD n ys = .err e ∧ e ≠ 0 ∧ Rdb HX sv' r ∧ r.length ≤ ys.length ∧ v = .tuple #[.int .u64 0, .int .i64 e] ∧ H1 = ((s, .cells #[sv'] 180 (0, 0)) :: HX))) := by
  refine (c_num HX s n sv ys w hb (by omega) hn hw).mono ?_
  rintro e w' ⟨v, H1, rfl, ⟨x, r, v', hd, rfl, rfl, hr, hrl⟩ | ⟨e, v', r, hd, he, rfl, rfl, hr, hrl⟩, h3⟩
  · exact ⟨_, _, rfl, .inl ⟨x, r, v', hd, hr, hrl, rfl, rfl⟩, h3⟩
  · exact ⟨_, _, rfl, .inr ⟨e, v', r, hd, he, hr, hrl, rfl, rfl⟩, h3⟩

theorem own_k2 {a b : Nat × Obj} {HX : Mem} {m : Nat} : ∀ e ∈ HX, m ≤ e.1 ∨ e.1 ∈ keys (a :: b :: HX) := fun e he => .inr (mem_keys.2 ⟨e, by simp [he], rfl⟩)
def stO (ys : List UInt8) (wr : Bool) : Option (List UInt8) := if wr then none else some ys
def getM {α : Type} (z : α) (d : List UInt8 → Dr α) : Option (List UInt8) → α × Option (List UInt8)
  | none => (z, none)
  | some ys => match d ys with
    | .ok x r => (x, some r)
    | .err _ => (z, none)
theorem getM_ok {α : Type} {z x : α} {d : List UInt8 → Dr α} {ys r : List UInt8} (h : d ys = .ok x r) : getM z d (stO ys false) = (x, stO r false) := by simp [getM, stO, h]
theorem getM_err {α : Type} {z : α} {e : Int} {d : List UInt8 → Dr α} {ys r : List UInt8} (h : d ys = .err e) : getM z d (stO ys false) = (z, stO r true) := by simp [getM, stO, h]
theorem c_getRaw (rd : Nat) (s2 : Nat) (sv : Value) (ys : List UInt8) (wr : Bool) (n : Nat) (HX : Mem) (w : World) (hby : Rdb HX sv ys) (hly : ys.length ≤ 1000000) (hn : n ≤ 1000000) (hH : Hp ((rd, .cells #[.pointer (some ⟨s2, 0, none⟩), .bool wr] 128 (0, 0)) :: (s2, .cells #[sv] 180 (0, 0)) :: HX) w) : Calls Tryz.prog 67 #[.pointer (some ⟨rd, 0, none⟩), .func (.func 110) #[.pointer (some ⟨s2, 0, none⟩)] #[], .int .i64 (n : Int)] w (Ret w (keys ((rd, .cells #[.pointer (some ⟨s2, 0, none⟩), .bool wr] 128 (0, 0)) :: (s2, .cells #[sv] 180 (0, 0)) :: HX)) fun v H1 => ∃ wr' ys' sv' st', Rdb HX sv' ys' ∧ ys'.length ≤ ys.length ∧ (getM [] (rawD n) (stO ys wr)).2 = stO ys' wr' ∧ BldOk 1 (byteC) (getM [] (rawD n) (stO ys wr)).1 st' ∧ v = bldVx (getM [] (rawD n) (stO ys wr)).1 st' ∧ H1 = (rd, .cells #[.pointer (some ⟨s2, 0, none⟩), .bool wr'] 128 (0, 0)) :: (s2, .cells #[sv'] 180 (0, 0)) :: (bldMx 5 (byteC) (getM [] (rawD n) (stO ys wr)).1 st' ++ HX)) := by
  refine fn_enter (args := [_, _, _]) Tryz.func67 rfl Tryz.ntmps67 rfl hH ?_
  refine pn_seq ?_
  refine pn_plain [] rfl ?_
  refine TE_q rfl rfl (RD.assign rfl) rfl ?_
  refine TE_nil0 ?_
  refine pn_seq ?_
  refine pn_plain [] rfl ?_
  refine TE_q rfl rfl (RD.assign rfl) rfl ?_
  refine TE_nil0 ?_
  refine pn_seq ?_
  refine pn_seq ?_
  refine pn_plain [] rfl ?_
  refine TE_q rfl rfl (RD.move rfl) rfl ?_
  refine TE_q rfl rfl (RD.nilCheckP rfl) rfl ?_
  refine TE_q rfl rfl (RD.fieldAddr (o := 1) Tryz.runUnderlying128 rfl rfl Tryz.sizeOf4 rfl) rfl ?_
  refine TE_l rfl rfl trivial rfl (RD.load (i := 0) Tryz.isAgg4 rfl rfl rfl) rfl ?_
  refine TE_nil0 ?_
  refine pn_cond rfl (fun hc1 => ?_) (fun hc1 => ?_)
  · refine pn_seq ?_
    refine pn_plain [] rfl ?_
    refine TE_q rfl rfl (RD.move rfl) rfl ?_
    refine TE_q rfl rfl (RD.assign rfl) rfl ?_
    refine TE_nil0 ?_
    refine pn_ret ?_
    have hg2 : (getM [] (rawD n) (stO ys wr)) = ([], stO ys wr) := (by rw [hc1]; rfl)
    exact pn_doneS ((rd, .cells #[.pointer (some ⟨s2, 0, none⟩), .bool wr] 128 (0, 0)) :: (s2, .cells #[sv] 180 (0, 0)) :: HX) rfl rfl ⟨wr, ys, sv, none, hby, (Nat.le_refl _), (by rw [hg2]), (by rw [hg2]; exact (show BldOk 1 (byteC) [] none from rfl)), (by rw [hg2]; rfl), (by rw [hg2]; rfl)⟩ (fun a => by simp -failIfUnchanged <;> omega) (ownC (.inr (by simp [keys])) (ownC (.inr (by simp [keys])) own_k2))
  · refine pn_skip ?_
    refine pn_seq ?_
    refine pn_plain [] rfl ?_
    refine TE_q rfl rfl (RD.move rfl) rfl ?_
    refine TE_q rfl rfl (RD.move rfl) rfl ?_
    refine TE_callM _ ((s2, .cells #[sv] 180 (0, 0)) :: HX) [(rd, .cells #[.pointer (some ⟨s2, 0, none⟩), .bool wr] 128 (0, 0))] ((s2, .cells #[sv] 180 (0, 0)) :: HX) rfl rfl trivial Tryz.call110 rfl rfl rfl (ownC (.inr (by simp [keys])) own_k2) (fun a => by simp -failIfUnchanged <;> omega) (fun w hw => c_gRaw HX s2 sv ys n w (hby.mono (fun _ hw => hw.sp (fun a => by simp -failIfUnchanged <;> omega))) hly (hw.sp (fun a => by simp -failIfUnchanged <;> omega))) (fun a => by simp -failIfUnchanged <;> omega) ?_
    rintro v15 H16 (⟨x12, r4, sv5, st6, hd7, hbo10, hr8, hrl9, rfl, rfl⟩ | ⟨e13, sv5, r4, hd7, hne14, hr8, hrl9, rfl, rfl⟩) hX17
    · have hRD11 : Rdx 1 (byteC) (bldMx 5 (byteC) x12 st6) (bldVx x12 st6) x12 := hbo10.rdx (u := 5) byteC_len; refine TE_sp ((s2, .cells #[sv5] 180 (0, 0)) :: (rd, .cells #[.pointer (some ⟨s2, 0, none⟩), .bool wr] 128 (0, 0)) :: ((bldMx 5 (byteC) x12 st6) ++ HX)) (fun a => by simp -failIfUnchanged <;> omega) ?_
      refine TE_q rfl rfl (RD.move rfl) rfl ?_
      refine TE_q rfl rfl (RD.extract rfl rfl) rfl ?_
      refine TE_q rfl rfl (RD.extract rfl rfl) rfl ?_
      refine TE_q rfl rfl (RD.assign rfl) rfl ?_
      refine TE_q rfl rfl (RD.assign rfl) rfl ?_
      refine TE_nil0 ?_
      refine pn_seq ?_
      refine pn_seq ?_
      refine pn_plain [] rfl ?_
      refine TE_q rfl rfl (RD.move rfl) rfl ?_
      refine TE_q rfl rfl (RD.move rfl) rfl ?_
      refine TE_q rfl rfl (RD.as (v := .bool false) (RD.neq rfl rfl) rfl) rfl ?_
      refine TE_q rfl rfl (RD.nilCheckP rfl) rfl ?_
      refine TE_q rfl rfl (RD.fieldAddr (o := 1) Tryz.runUnderlying128 rfl rfl Tryz.sizeOf4 rfl) rfl ?_
      refine TE_storeC 1 #[.pointer (some ⟨s2, 0, none⟩), .bool wr] #[.pointer (some ⟨s2, 0, none⟩), .bool false] ((s2, .cells #[sv5] 180 (0, 0)) :: (rd, .cells #[.pointer (some ⟨s2, 0, none⟩), .bool false] 128 (0, 0)) :: ((bldMx 5 (byteC) x12 st6) ++ HX)) rfl Tryz.sizeOf4 trivial rfl rfl rfl rfl rfl rfl rfl rfl (.inr (by simp [keys])) ?_
      refine TE_nil0 ?_
      refine pn_seq ?_
      refine pn_plain [] rfl ?_
      refine TE_q rfl rfl (RD.move rfl) rfl ?_
      refine TE_q rfl rfl (RD.nilCheckP rfl) rfl ?_
      refine TE_q rfl rfl (RD.fieldAddr (o := 1) Tryz.runUnderlying128 rfl rfl Tryz.sizeOf4 rfl) rfl ?_
      refine TE_l rfl rfl trivial rfl (RD.load (i := 1) Tryz.isAgg4 rfl rfl rfl) rfl ?_
      refine TE_nil0 ?_
      refine pn_condF rfl ?_
      refine pn_skip ?_
      refine pn_seq ?_
      refine pn_plain [] rfl ?_
      refine TE_q rfl rfl (RD.move rfl) rfl ?_
      refine TE_q rfl rfl (RD.assign rfl) rfl ?_
      refine TE_nil0 ?_
      refine pn_ret ?_
      have hg18 : (getM [] (rawD n) (stO ys wr)) = (x12, stO r4 false) := (by rw [hc1]; exact getM_ok hd7)
      exact pn_doneS ((rd, .cells #[.pointer (some ⟨s2, 0, none⟩), .bool false] 128 (0, 0)) :: (s2, .cells #[sv5] 180 (0, 0)) :: ((bldMx 5 (byteC) x12 st6) ++ HX)) rfl rfl ⟨false, r4, sv5, st6, hr8, hrl9, (by rw [hg18]), (by rw [hg18]; exact hbo10), (by rw [hg18]; rfl), (by rw [hg18])⟩ (fun a => by simp -failIfUnchanged <;> omega) (ownC (.inr (by simp [keys])) (ownC (.inr (by simp [keys])) (ownA (fun e he => hX17 e (List.mem_append_left _ he)) (fun e he => hX17 e (List.mem_append_right _ (List.mem_cons_of_mem _ he))))))
    · refine TE_sp ((s2, .cells #[sv5] 180 (0, 0)) :: (rd, .cells #[.pointer (some ⟨s2, 0, none⟩), .bool wr] 128 (0, 0)) :: HX) (fun a => by simp -failIfUnchanged <;> omega) ?_
      refine TE_q rfl rfl (RD.move rfl) rfl ?_
      refine TE_q rfl rfl (RD.extract rfl rfl) rfl ?_
      refine TE_q rfl rfl (RD.extract rfl rfl) rfl ?_
      refine TE_q rfl rfl (RD.assign rfl) rfl ?_
      refine TE_q rfl rfl (RD.assign rfl) rfl ?_
      refine TE_nil0 ?_
      refine pn_seq ?_
      refine pn_seq ?_
      refine pn_plain [] rfl ?_
      refine TE_q rfl rfl (RD.move rfl) rfl ?_
      refine TE_q rfl rfl (RD.move rfl) rfl ?_
      refine TE_q rfl rfl (RD.as (v := .bool true) (RD.neq rfl rfl) (congrArg Value.bool (by simp [hne14]))) rfl ?_
      refine TE_q rfl rfl (RD.nilCheckP rfl) rfl ?_
      refine TE_q rfl rfl (RD.fieldAddr (o := 1) Tryz.runUnderlying128 rfl rfl Tryz.sizeOf4 rfl) rfl ?_
      refine TE_storeC 1 #[.pointer (some ⟨s2, 0, none⟩), .bool wr] #[.pointer (some ⟨s2, 0, none⟩), .bool true] ((s2, .cells #[sv5] 180 (0, 0)) :: (rd, .cells #[.pointer (some ⟨s2, 0, none⟩), .bool true] 128 (0, 0)) :: HX) rfl Tryz.sizeOf4 trivial rfl rfl rfl rfl rfl rfl rfl rfl (.inr (by simp [keys])) ?_
      refine TE_nil0 ?_
      refine pn_seq ?_
      refine pn_plain [] rfl ?_
      refine TE_q rfl rfl (RD.move rfl) rfl ?_
      refine TE_q rfl rfl (RD.nilCheckP rfl) rfl ?_
      refine TE_q rfl rfl (RD.fieldAddr (o := 1) Tryz.runUnderlying128 rfl rfl Tryz.sizeOf4 rfl) rfl ?_
      refine TE_l rfl rfl trivial rfl (RD.load (i := 1) Tryz.isAgg4 rfl rfl rfl) rfl ?_
      refine TE_nil0 ?_
      refine pn_condT rfl ?_
      refine pn_seq ?_
      refine pn_plain [] rfl ?_
      refine TE_q rfl rfl (RD.move rfl) rfl ?_
      refine TE_q rfl rfl (RD.assign rfl) rfl ?_
      refine TE_nil0 ?_
      refine pn_ret ?_
      have hg19 : (getM [] (rawD n) (stO ys wr)) = ([], stO r4 true) := (by rw [hc1]; exact getM_err hd7)
      exact pn_doneS ((rd, .cells #[.pointer (some ⟨s2, 0, none⟩), .bool true] 128 (0, 0)) :: (s2, .cells #[sv5] 180 (0, 0)) :: HX) rfl rfl ⟨true, r4, sv5, none, hr8, hrl9, (by rw [hg19]), (by rw [hg19]; exact (show BldOk 1 (byteC) [] none from rfl)), (by rw [hg19]; rfl), (by rw [hg19]; rfl)⟩ (fun a => by simp -failIfUnchanged <;> omega) (ownC (.inr (by simp [keys])) (ownC (.inr (by simp [keys])) (fun e he => hX17 e (List.mem_cons_of_mem _ he))))

theorem c_getBytes (rd : Nat) (s2 : Nat) (sv : Value) (ys : List UInt8) (wr : Bool) (n : Nat) (HX : Mem) (w : World) (hby : Rdb HX sv ys) (hly : ys.length ≤ 1000000) (hn : n ≤ 1000000) (hH : Hp ((rd, .cells #[.pointer (some ⟨s2, 0, none⟩), .bool wr] 128 (0, 0)) :: (s2, .cells #[sv] 180 (0, 0)) :: HX) w) : Calls Tryz.prog 67 #[.pointer (some ⟨rd, 0, none⟩), .func (.func 68) #[.pointer (some ⟨s2, 0, none⟩)] #[], .int .i64 (n : Int)] w (Ret w (keys ((rd, .cells #[.pointer (some ⟨s2, 0, none⟩), .bool wr] 128 (0, 0)) :: (s2, .cells #[sv] 180 (0, 0)) :: HX)) fun v H1 => ∃ wr' ys' sv' st', Rdb HX sv' ys' ∧ ys'.length ≤ ys.length ∧ (getM [] (bytesD n) (stO ys wr)).2 = stO ys' wr' ∧ BldOk 1 (byteC) (getM [] (bytesD n) (stO ys wr)).1 st' ∧ v = bldVx (getM [] (bytesD n) (stO ys wr)).1 st' ∧ H1 = (rd, .cells #[.pointer (some ⟨s2, 0, none⟩), .bool wr'] 128 (0, 0)) :: (s2, .cells #[sv'] 180 (0, 0)) :: (bldMx 5 (byteC) (getM [] (bytesD n) (stO ys wr)).1 st' ++ HX)) := by
  refine fn_enter (args := [_, _, _]) Tryz.func67 rfl Tryz.ntmps67 rfl hH ?_
  refine pn_seq ?_
  refine pn_plain [] rfl ?_
  refine TE_q rfl rfl (RD.assign rfl) rfl ?_
  refine TE_nil0 ?_
  refine pn_seq ?_
  refine pn_plain [] rfl ?_
  refine TE_q rfl rfl (RD.assign rfl) rfl ?_
  refine TE_nil0 ?_
  refine pn_seq ?_
  refine pn_seq ?_
  refine pn_plain [] rfl ?_
  refine TE_q rfl rfl (RD.move rfl) rfl ?_
  refine TE_q rfl rfl (RD.nilCheckP rfl) rfl ?_
  refine TE_q rfl rfl (RD.fieldAddr (o := 1) Tryz.runUnderlying128 rfl rfl Tryz.sizeOf4 rfl) rfl ?_
  refine TE_l rfl rfl trivial rfl (RD.load (i := 0) Tryz.isAgg4 rfl rfl rfl) rfl ?_
  refine TE_nil0 ?_
  refine pn_cond rfl (fun hc1 => ?_) (fun hc1 => ?_)
  · refine pn_seq ?_
    refine pn_plain [] rfl ?_
    refine TE_q rfl rfl (RD.move rfl) rfl ?_
    refine TE_q rfl rfl (RD.assign rfl) rfl ?_
    refine TE_nil0 ?_
    refine pn_ret ?_
    have hg2 : (getM [] (bytesD n) (stO ys wr)) = ([], stO ys wr) := (by rw [hc1]; rfl)
    exact pn_doneS ((rd, .cells #[.pointer (some ⟨s2, 0, none⟩), .bool wr] 128 (0, 0)) :: (s2, .cells #[sv] 180 (0, 0)) :: HX) rfl rfl ⟨wr, ys, sv, none, hby, (Nat.le_refl _), (by rw [hg2]), (by rw [hg2]; exact (show BldOk 1 (byteC) [] none from rfl)), (by rw [hg2]; rfl), (by rw [hg2]; rfl)⟩ (fun a => by simp -failIfUnchanged <;> omega) (ownC (.inr (by simp [keys])) (ownC (.inr (by simp [keys])) own_k2))
  · refine pn_skip ?_
    refine pn_seq ?_
    refine pn_plain [] rfl ?_
    refine TE_q rfl rfl (RD.move rfl) rfl ?_
    refine TE_q rfl rfl (RD.move rfl) rfl ?_
    refine TE_callM _ ((s2, .cells #[sv] 180 (0, 0)) :: HX) [(rd, .cells #[.pointer (some ⟨s2, 0, none⟩), .bool wr] 128 (0, 0))] ((s2, .cells #[sv] 180 (0, 0)) :: HX) rfl rfl trivial Tryz.call68 rfl rfl rfl (ownC (.inr (by simp [keys])) own_k2) (fun a => by simp -failIfUnchanged <;> omega) (fun w hw => c_gBytes HX s2 sv ys n w (hby.mono (fun _ hw => hw.sp (fun a => by simp -failIfUnchanged <;> omega))) hly (by omega) (hw.sp (fun a => by simp -failIfUnchanged <;> omega))) (fun a => by simp -failIfUnchanged <;> omega) ?_
    rintro v15 H16 (⟨x12, r4, sv5, st6, hd7, hbo10, hr8, hrl9, rfl, rfl⟩ | ⟨e13, sv5, r4, hd7, hne14, hr8, hrl9, rfl, rfl⟩) hX17
    · have hRD11 : Rdx 1 (byteC) (bldMx 5 (byteC) x12 st6) (bldVx x12 st6) x12 := hbo10.rdx (u := 5) byteC_len; refine TE_sp ((s2, .cells #[sv5] 180 (0, 0)) :: (rd, .cells #[.pointer (some ⟨s2, 0, none⟩), .bool wr] 128 (0, 0)) :: ((bldMx 5 (byteC) x12 st6) ++ HX)) (fun a => by simp -failIfUnchanged <;> omega) ?_
      refine TE_q rfl rfl (RD.move rfl) rfl ?_
      refine TE_q rfl rfl (RD.extract rfl rfl) rfl ?_
      refine TE_q rfl rfl (RD.extract rfl rfl) rfl ?_
      refine TE_q rfl rfl (RD.assign rfl) rfl ?_
      refine TE_q rfl rfl (RD.assign rfl) rfl ?_
      refine TE_nil0 ?_
      refine pn_seq ?_
      refine pn_seq ?_
      refine pn_plain [] rfl ?_
      refine TE_q rfl rfl (RD.move rfl) rfl ?_
      refine TE_q rfl rfl (RD.move rfl) rfl ?_
      refine TE_q rfl rfl (RD.as (v := .bool false) (RD.neq rfl rfl) rfl) rfl ?_
      refine TE_q rfl rfl (RD.nilCheckP rfl) rfl ?_
      refine TE_q rfl rfl (RD.fieldAddr (o := 1) Tryz.runUnderlying128 rfl rfl Tryz.sizeOf4 rfl) rfl ?_
      refine TE_storeC 1 #[.pointer (some ⟨s2, 0, none⟩), .bool wr] #[.pointer (some ⟨s2, 0, none⟩), .bool false] ((s2, .cells #[sv5] 180 (0, 0)) :: (rd, .cells #[.pointer (some ⟨s2, 0, none⟩), .bool false] 128 (0, 0)) :: ((bldMx 5 (byteC) x12 st6) ++ HX)) rfl Tryz.sizeOf4 trivial rfl rfl rfl rfl rfl rfl rfl rfl (.inr (by simp [keys])) ?_
      refine TE_nil0 ?_
      refine pn_seq ?_
      refine pn_plain [] rfl ?_
      refine TE_q rfl rfl (RD.move rfl) rfl ?_
      refine TE_q rfl rfl (RD.nilCheckP rfl) rfl ?_
      refine TE_q rfl rfl (RD.fieldAddr (o := 1) Tryz.runUnderlying128 rfl rfl Tryz.sizeOf4 rfl) rfl ?_
      refine TE_l rfl rfl trivial rfl (RD.load (i := 1) Tryz.isAgg4 rfl rfl rfl) rfl ?_
      refine TE_nil0 ?_
      refine pn_condF rfl ?_
      refine pn_skip ?_
      refine pn_seq ?_
      refine pn_plain [] rfl ?_
      refine TE_q rfl rfl (RD.move rfl) rfl ?_
      refine TE_q rfl rfl (RD.assign rfl) rfl ?_
      refine TE_nil0 ?_
      refine pn_ret ?_
      have hg18 : (getM [] (bytesD n) (stO ys wr)) = (x12, stO r4 false) := (by rw [hc1]; exact getM_ok hd7)
      exact pn_doneS ((rd, .cells #[.pointer (some ⟨s2, 0, none⟩), .bool false] 128 (0, 0)) :: (s2, .cells #[sv5] 180 (0, 0)) :: ((bldMx 5 (byteC) x12 st6) ++ HX)) rfl rfl ⟨false, r4, sv5, st6, hr8, hrl9, (by rw [hg18]), (by rw [hg18]; exact hbo10), (by rw [hg18]; rfl), (by rw [hg18])⟩ (fun a => by simp -failIfUnchanged <;> omega) (ownC (.inr (by simp [keys])) (ownC (.inr (by simp [keys])) (ownA (fun e he => hX17 e (List.mem_append_left _ he)) (fun e he => hX17 e (List.mem_append_right _ (List.mem_cons_of_mem _ he))))))
    · refine TE_sp ((s2, .cells #[sv5] 180 (0, 0)) :: (rd, .cells #[.pointer (some ⟨s2, 0, none⟩), .bool wr] 128 (0, 0)) :: HX) (fun a => by simp -failIfUnchanged <;> omega) ?_
      refine TE_q rfl rfl (RD.move rfl) rfl ?_
      refine TE_q rfl rfl (RD.extract rfl rfl) rfl ?_
      refine TE_q rfl rfl (RD.extract rfl rfl) rfl ?_
      refine TE_q rfl rfl (RD.assign rfl) rfl ?_
      refine TE_q rfl rfl (RD.assign rfl) rfl ?_
      refine TE_nil0 ?_
      refine pn_seq ?_
      refine pn_seq ?_
      refine pn_plain [] rfl ?_
      refine TE_q rfl rfl (RD.move rfl) rfl ?_
      refine TE_q rfl rfl (RD.move rfl) rfl ?_
      refine TE_q rfl rfl (RD.as (v := .bool true) (RD.neq rfl rfl) (congrArg Value.bool (by simp [hne14]))) rfl ?_
      refine TE_q rfl rfl (RD.nilCheckP rfl) rfl ?_
      refine TE_q rfl rfl (RD.fieldAddr (o := 1) Tryz.runUnderlying128 rfl rfl Tryz.sizeOf4 rfl) rfl ?_
      refine TE_storeC 1 #[.pointer (some ⟨s2, 0, none⟩), .bool wr] #[.pointer (some ⟨s2, 0, none⟩), .bool true] ((s2, .cells #[sv5] 180 (0, 0)) :: (rd, .cells #[.pointer (some ⟨s2, 0, none⟩), .bool true] 128 (0, 0)) :: HX) rfl Tryz.sizeOf4 trivial rfl rfl rfl rfl rfl rfl rfl rfl (.inr (by simp [keys])) ?_
      refine TE_nil0 ?_
      refine pn_seq ?_
      refine pn_plain [] rfl ?_
      refine TE_q rfl rfl (RD.move rfl) rfl ?_
      refine TE_q rfl rfl (RD.nilCheckP rfl) rfl ?_
      refine TE_q rfl rfl (RD.fieldAddr (o := 1) Tryz.runUnderlying128 rfl rfl Tryz.sizeOf4 rfl) rfl ?_
      refine TE_l rfl rfl trivial rfl (RD.load (i := 1) Tryz.isAgg4 rfl rfl rfl) rfl ?_
      refine TE_nil0 ?_
      refine pn_condT rfl ?_
      refine pn_seq ?_
      refine pn_plain [] rfl ?_
      refine TE_q rfl rfl (RD.move rfl) rfl ?_
      refine TE_q rfl rfl (RD.assign rfl) rfl ?_
      refine TE_nil0 ?_
      refine pn_ret ?_
      have hg19 : (getM [] (bytesD n) (stO ys wr)) = ([], stO r4 true) := (by rw [hc1]; exact getM_err hd7)
      exact pn_doneS ((rd, .cells #[.pointer (some ⟨s2, 0, none⟩), .bool true] 128 (0, 0)) :: (s2, .cells #[sv5] 180 (0, 0)) :: HX) rfl rfl ⟨true, r4, sv5, none, hr8, hrl9, (by rw [hg19]), (by rw [hg19]; exact (show BldOk 1 (byteC) [] none from rfl)), (by rw [hg19]; rfl), (by rw [hg19]; rfl)⟩ (fun a => by simp -failIfUnchanged <;> omega) (ownC (.inr (by simp [keys])) (ownC (.inr (by simp [keys])) (fun e he => hX17 e (List.mem_cons_of_mem _ he))))

theorem c_getNum (rd : Nat) (s2 : Nat) (sv : Value) (ys : List UInt8) (wr : Bool) (n : Nat) (HX : Mem) (w : World) (hby : Rdb HX sv ys) (hly : ys.length ≤ 1000000) (hn : n ≤ 1000000) (hH : Hp ((rd, .cells #[.pointer (some ⟨s2, 0, none⟩), .bool wr] 128 (0, 0)) :: (s2, .cells #[sv] 180 (0, 0)) :: HX) w) : Calls Tryz.prog 113 #[.pointer (some ⟨rd, 0, none⟩), .func (.func 112) #[.pointer (some ⟨s2, 0, none⟩)] #[], .int .u64 (n : Int)] w (Ret w (keys ((rd, .cells #[.pointer (some ⟨s2, 0, none⟩), .bool wr] 128 (0, 0)) :: (s2, .cells #[sv] 180 (0, 0)) :: HX)) fun v H1 => ∃ wr' ys' sv', Rdb HX sv' ys' ∧ ys'.length ≤ ys.length ∧ (getM 0 (numD n) (stO ys wr)).2 = stO ys' wr' ∧ v = .int .u64 (((getM 0 (numD n) (stO ys wr)).1 : Nat) : Int) ∧ H1 = (rd, .cells #[.pointer (some ⟨s2, 0, none⟩), .bool wr'] 128 (0, 0)) :: (s2, .cells #[sv'] 180 (0, 0)) :: HX) := by
  refine fn_enter (args := [_, _, _]) Tryz.func113 rfl Tryz.ntmps113 rfl hH ?_
  refine pn_seq ?_
  refine pn_plain [] rfl ?_
  refine TE_q rfl rfl (RD.assign rfl) rfl ?_
  refine TE_nil0 ?_
  refine pn_seq ?_
  refine pn_plain [] rfl ?_
  refine TE_q rfl rfl (RD.assign rfl) rfl ?_
  refine TE_nil0 ?_
  refine pn_seq ?_
  refine pn_seq ?_
  refine pn_plain [] rfl ?_
  refine TE_q rfl rfl (RD.move rfl) rfl ?_
  refine TE_q rfl rfl (RD.nilCheckP rfl) rfl ?_
  refine TE_q rfl rfl (RD.fieldAddr (o := 1) Tryz.runUnderlying128 rfl rfl Tryz.sizeOf4 rfl) rfl ?_
  refine TE_l rfl rfl trivial rfl (RD.load (i := 0) Tryz.isAgg4 rfl rfl rfl) rfl ?_
  refine TE_nil0 ?_
  refine pn_cond rfl (fun hc1 => ?_) (fun hc1 => ?_)
  · refine pn_seq ?_
    refine pn_plain [] rfl ?_
    refine TE_q rfl rfl (RD.move rfl) rfl ?_
    refine TE_q rfl rfl (RD.assign rfl) rfl ?_
    refine TE_nil0 ?_
    refine pn_ret ?_
    have hg2 : (getM 0 (numD n) (stO ys wr)) = (0, stO ys wr) := (by rw [hc1]; rfl)
    exact pn_doneS ((rd, .cells #[.pointer (some ⟨s2, 0, none⟩), .bool wr] 128 (0, 0)) :: (s2, .cells #[sv] 180 (0, 0)) :: HX) rfl rfl ⟨wr, ys, sv, hby, (Nat.le_refl _), (by rw [hg2]), (by rw [hg2]; rfl), rfl⟩ (fun a => by simp -failIfUnchanged <;> omega) (ownC (.inr (by simp [keys])) (ownC (.inr (by simp [keys])) own_k2))
  · refine pn_skip ?_
    refine pn_seq ?_
    refine pn_plain [] rfl ?_
    refine TE_q rfl rfl (RD.move rfl) rfl ?_
    refine TE_q rfl rfl (RD.move rfl) rfl ?_
    refine TE_callM _ ((s2, .cells #[sv] 180 (0, 0)) :: HX) [(rd, .cells #[.pointer (some ⟨s2, 0, none⟩), .bool wr] 128 (0, 0))] ((s2, .cells #[sv] 180 (0, 0)) :: HX) rfl rfl trivial Tryz.call112 rfl rfl rfl (ownC (.inr (by simp [keys])) own_k2) (fun a => by simp -failIfUnchanged <;> omega) (fun w hw => c_gNum HX s2 sv ys n w (hby.mono (fun _ hw => hw.sp (fun a => by simp -failIfUnchanged <;> omega))) hly (by omega) (hw.sp (fun a => by simp -failIfUnchanged <;> omega))) (fun a => by simp -failIfUnchanged <;> omega) ?_
    rintro v15 H16 (⟨x12, r4, sv5, hd7, hr8, hrl9, rfl, rfl⟩ | ⟨e13, sv5, r4, hd7, hne14, hr8, hrl9, rfl, rfl⟩) hX17
    · refine TE_sp ((s2, .cells #[sv5] 180 (0, 0)) :: (rd, .cells #[.pointer (some ⟨s2, 0, none⟩), .bool wr] 128 (0, 0)) :: HX) (fun a => by simp -failIfUnchanged <;> omega) ?_
      refine TE_q rfl rfl (RD.move rfl) rfl ?_
      refine TE_q rfl rfl (RD.extract rfl rfl) rfl ?_
      refine TE_q rfl rfl (RD.extract rfl rfl) rfl ?_
      refine TE_q rfl rfl (RD.assign rfl) rfl ?_
      refine TE_q rfl rfl (RD.assign rfl) rfl ?_
      refine TE_nil0 ?_
      refine pn_seq ?_
      refine pn_seq ?_
      refine pn_plain [] rfl ?_
      refine TE_q rfl rfl (RD.move rfl) rfl ?_
      refine TE_q rfl rfl (RD.move rfl) rfl ?_
      refine TE_q rfl rfl (RD.as (v := .bool false) (RD.neq rfl rfl) rfl) rfl ?_
      refine TE_q rfl rfl (RD.nilCheckP rfl) rfl ?_
      refine TE_q rfl rfl (RD.fieldAddr (o := 1) Tryz.runUnderlying128 rfl rfl Tryz.sizeOf4 rfl) rfl ?_
      refine TE_storeC 1 #[.pointer (some ⟨s2, 0, none⟩), .bool wr] #[.pointer (some ⟨s2, 0, none⟩), .bool false] ((s2, .cells #[sv5] 180 (0, 0)) :: (rd, .cells #[.pointer (some ⟨s2, 0, none⟩), .bool false] 128 (0, 0)) :: HX) rfl Tryz.sizeOf4 trivial rfl rfl rfl rfl rfl rfl rfl rfl (.inr (by simp [keys])) ?_
      refine TE_nil0 ?_
      refine pn_seq ?_
      refine pn_plain [] rfl ?_
      refine TE_q rfl rfl (RD.move rfl) rfl ?_
      refine TE_q rfl rfl (RD.nilCheckP rfl) rfl ?_
      refine TE_q rfl rfl (RD.fieldAddr (o := 1) Tryz.runUnderlying128 rfl rfl Tryz.sizeOf4 rfl) rfl ?_
      refine TE_l rfl rfl trivial rfl (RD.load (i := 1) Tryz.isAgg4 rfl rfl rfl) rfl ?_
      refine TE_nil0 ?_
      refine pn_condF rfl ?_
      refine pn_skip ?_
      refine pn_seq ?_
      refine pn_plain [] rfl ?_
      refine TE_q rfl rfl (RD.move rfl) rfl ?_
      refine TE_q rfl rfl (RD.assign rfl) rfl ?_
      refine TE_nil0 ?_
      refine pn_ret ?_
      have hg18 : (getM 0 (numD n) (stO ys wr)) = (x12, stO r4 false) := (by rw [hc1]; exact getM_ok hd7)
      exact pn_doneS ((rd, .cells #[.pointer (some ⟨s2, 0, none⟩), .bool false] 128 (0, 0)) :: (s2, .cells #[sv5] 180 (0, 0)) :: HX) rfl rfl ⟨false, r4, sv5, hr8, hrl9, (by rw [hg18]), (by rw [hg18]; rfl), rfl⟩ (fun a => by simp -failIfUnchanged <;> omega) (ownC (.inr (by simp [keys])) (ownC (.inr (by simp [keys])) (fun e he => hX17 e (List.mem_cons_of_mem _ he))))
    · refine TE_sp ((s2, .cells #[sv5] 180 (0, 0)) :: (rd, .cells #[.pointer (some ⟨s2, 0, none⟩), .bool wr] 128 (0, 0)) :: HX) (fun a => by simp -failIfUnchanged <;> omega) ?_
      refine TE_q rfl rfl (RD.move rfl) rfl ?_
      refine TE_q rfl rfl (RD.extract rfl rfl) rfl ?_
      refine TE_q rfl rfl (RD.extract rfl rfl) rfl ?_
      refine TE_q rfl rfl (RD.assign rfl) rfl ?_
      refine TE_q rfl rfl (RD.assign rfl) rfl ?_
      refine TE_nil0 ?_
      refine pn_seq ?_
      refine pn_seq ?_
      refine pn_plain [] rfl ?_
      refine TE_q rfl rfl (RD.move rfl) rfl ?_
      refine TE_q rfl rfl (RD.move rfl) rfl ?_
      refine TE_q rfl rfl (RD.as (v := .bool true) (RD.neq rfl rfl) (congrArg Value.bool (by simp [hne14]))) rfl ?_
      refine TE_q rfl rfl (RD.nilCheckP rfl) rfl ?_
      refine TE_q rfl rfl (RD.fieldAddr (o := 1) Tryz.runUnderlying128 rfl rfl Tryz.sizeOf4 rfl) rfl ?_
      refine TE_storeC 1 #[.pointer (some ⟨s2, 0, none⟩), .bool wr] #[.pointer (some ⟨s2, 0, none⟩), .bool true] ((s2, .cells #[sv5] 180 (0, 0)) :: (rd, .cells #[.pointer (some ⟨s2, 0, none⟩), .bool true] 128 (0, 0)) :: HX) rfl Tryz.sizeOf4 trivial rfl rfl rfl rfl rfl rfl rfl rfl (.inr (by simp [keys])) ?_
      refine TE_nil0 ?_
      refine pn_seq ?_
      refine pn_plain [] rfl ?_
      refine TE_q rfl rfl (RD.move rfl) rfl ?_
      refine TE_q rfl rfl (RD.nilCheckP rfl) rfl ?_
      refine TE_q rfl rfl (RD.fieldAddr (o := 1) Tryz.runUnderlying128 rfl rfl Tryz.sizeOf4 rfl) rfl ?_
      refine TE_l rfl rfl trivial rfl (RD.load (i := 1) Tryz.isAgg4 rfl rfl rfl) rfl ?_
      refine TE_nil0 ?_
      refine pn_condT rfl ?_
      refine pn_seq ?_
      refine pn_plain [] rfl ?_
      refine TE_q rfl rfl (RD.move rfl) rfl ?_
      refine TE_q rfl rfl (RD.assign rfl) rfl ?_
      refine TE_nil0 ?_
      refine pn_ret ?_
      have hg19 : (getM 0 (numD n) (stO ys wr)) = (0, stO r4 true) := (by rw [hc1]; exact getM_err hd7)
      exact pn_doneS ((rd, .cells #[.pointer (some ⟨s2, 0, none⟩), .bool true] 128 (0, 0)) :: (s2, .cells #[sv5] 180 (0, 0)) :: HX) rfl rfl ⟨true, r4, sv5, hr8, hrl9, (by rw [hg19]), (by rw [hg19]; rfl), rfl⟩ (fun a => by simp -failIfUnchanged <;> omega) (ownC (.inr (by simp [keys])) (ownC (.inr (by simp [keys])) (fun e he => hX17 e (List.mem_cons_of_mem _ he))))

def oneZ (l : List UInt8) : Int := if l.length = 0 then 0 else ((gt l 0).toNat : Int)
def oneM (o : Option (List UInt8)) : Int × Option (List UInt8) := (oneZ (getM [] (rawD 1) o).1, (getM [] (rawD 1) o).2)
theorem oneZ_0 {l : List UInt8} (h : (l.length : Int) = 0) : (0 : Int) = oneZ l := by rw [oneZ, if_pos (by omega)]
theorem oneZ_1 {l : List UInt8} (h : ¬ (l.length : Int) = 0) : ((gt l 0).toNat : Int) = oneZ l := by rw [oneZ, if_neg (by omega)]
theorem getRaw_len {n : Nat} {o : Option (List UInt8)} : (getM [] (rawD n) o).1.length ≤ n := by
  cases o with
  | none => simp [getM]
  | some ys =>
    simp only [getM, rawD]
    split
    · rename_i h; split at h
      · cases h
      · cases h; simp; omega
    · simp

theorem c_rdOne (rd : Nat) (s2 : Nat) (sv : Value) (ys : List UInt8) (wr : Bool) (HX : Mem) (w : World) (hby : Rdb HX sv ys) (hly : ys.length ≤ 1000000) (hH : Hp ((rd, .cells #[.pointer (some ⟨s2, 0, none⟩), .bool wr] 128 (0, 0)) :: (s2, .cells #[sv] 180 (0, 0)) :: HX) w) : Calls Tryz.prog 65 #[.pointer (some ⟨rd, 0, none⟩)] w (Ret w (keys ((rd, .cells #[.pointer (some ⟨s2, 0, none⟩), .bool wr] 128 (0, 0)) :: (s2, .cells #[sv] 180 (0, 0)) :: HX)) fun v H1 => ∃ wr' ys' sv', Rdb HX sv' ys' ∧ ys'.length ≤ ys.length ∧ (oneM (stO ys wr)).2 = stO ys' wr' ∧ v = .int .i64 (oneM (stO ys wr)).1 ∧ H1 = (rd, .cells #[.pointer (some ⟨s2, 0, none⟩), .bool wr'] 128 (0, 0)) :: (s2, .cells #[sv'] 180 (0, 0)) :: HX) := by
  refine fn_enter (args := [_]) Tryz.func65 rfl Tryz.ntmps65 rfl hH ?_
  refine pn_seq ?_
  refine pn_plain [] rfl ?_
  refine TE_q rfl rfl (RD.assign rfl) rfl ?_
  refine TE_nil0 ?_
  refine pn_seq ?_
  refine pn_plain [] rfl ?_
  refine TE_q rfl rfl (RD.move rfl) rfl ?_
  refine TE_q rfl rfl (RD.nilCheckP rfl) rfl ?_
  refine TE_q rfl rfl (RD.fieldAddr (o := 0) Tryz.runUnderlying128 rfl rfl Tryz.sizeOf125 rfl) rfl ?_
  refine TE_l rfl rfl trivial rfl (RD.load (i := 0) Tryz.isAgg125 rfl rfl rfl) rfl ?_
  refine TE_q rfl rfl (RD.makeFunc rfl rfl) rfl ?_
  refine TE_q rfl rfl (RD.assign rfl) rfl ?_
  refine TE_nil0 ?_
  refine pn_seq ?_
  refine pn_plain [] rfl ?_
  refine TE_q rfl rfl (RD.move rfl) rfl ?_
  refine TE_q rfl rfl (RD.move rfl) rfl ?_
  refine TE_callM _ ((rd, .cells #[.pointer (some ⟨s2, 0, none⟩), .bool wr] 128 (0, 0)) :: (s2, .cells #[sv] 180 (0, 0)) :: HX) [] ((rd, .cells #[.pointer (some ⟨s2, 0, none⟩), .bool wr] 128 (0, 0)) :: (s2, .cells #[sv] 180 (0, 0)) :: HX) rfl rfl trivial Tryz.call67 rfl rfl rfl (ownC (.inr (by simp [keys])) (ownC (.inr (by simp [keys])) own_k2)) (fun a => by simp -failIfUnchanged <;> omega) (fun w hw => c_getRaw rd s2 sv ys wr 1 HX w (hby.mono (fun _ hw => hw.sp (fun a => by simp -failIfUnchanged <;> omega))) hly (by first | assumption | omega | (simp; done) | (simp; omega)) (hw.sp (fun a => by simp -failIfUnchanged <;> omega))) (fun a => by simp -failIfUnchanged <;> omega) ?_
  rintro v11 H12 ⟨wr5, ys6, sv7, st2, hr8, hrl9, hg10, hbo3, rfl, rfl⟩ hX4
  have hRD1 : Rdx 1 (byteC) (bldMx 5 (byteC) (getM [] (rawD 1) (stO ys wr)).1 st2) (bldVx (getM [] (rawD 1) (stO ys wr)).1 st2) (getM [] (rawD 1) (stO ys wr)).1 := hbo3.rdx (u := 5) byteC_len
  refine TE_sp ((rd, .cells #[.pointer (some ⟨s2, 0, none⟩), .bool wr5] 128 (0, 0)) :: (s2, .cells #[sv7] 180 (0, 0)) :: ((bldMx 5 (byteC) (getM [] (rawD 1) (stO ys wr)).1 st2) ++ HX)) (fun a => by simp -failIfUnchanged <;> omega) ?_
  refine TE_q rfl rfl (RD.assign rfl) rfl ?_
  refine TE_nil0 ?_
  refine pn_seq ?_
  refine pn_seq ?_
  refine pn_plain [1] rfl ?_
  refine TE_q rfl rfl (RD.move rfl) rfl ?_
  refine TE_q rfl rfl (RD.lenX Tryz.runUnderlying32 rfl hRD1) rfl ?_
  refine TE_q rfl rfl (RD.eql rfl rfl) rfl ?_
  refine TE_nil0 ?_
  refine pn_condD rfl (fun hc13 => ?_) (fun hc13 => ?_)
  · refine pn_seq ?_
    refine pn_plainG [] ((rd, .cells #[.pointer (some ⟨s2, 0, none⟩), .bool wr5] 128 (0, 0)) :: (s2, .cells #[sv7] 180 (0, 0)) :: HX) rfl (fun a => by simp -failIfUnchanged <;> omega) ?_
    refine TE_q rfl rfl (RD.assign rfl) rfl ?_
    refine TE_nil0 ?_
    refine pn_ret ?_
    exact pn_doneS ((rd, .cells #[.pointer (some ⟨s2, 0, none⟩), .bool wr5] 128 (0, 0)) :: (s2, .cells #[sv7] 180 (0, 0)) :: HX) rfl rfl ⟨wr5, ys6, sv7, hr8, hrl9, hg10, (congrArg (Value.int .i64) (oneZ_0 hc13)), rfl⟩ (fun a => by simp -failIfUnchanged <;> omega) (ownC (.inr (by simp [keys])) (ownC (.inr (by simp [keys])) (fun e he => hX4 e (List.mem_cons_of_mem _ (List.mem_cons_of_mem _ (List.mem_append_right _ he))))))
  · refine pn_skip ?_
    refine pn_seq ?_
    refine pn_plain [3] rfl ?_
    refine TE_q rfl rfl (RD.move rfl) rfl ?_
    refine TE_q rfl rfl (RD.idxR (i := 0) (o := (0 * 1 + 0)) Tryz.runUnderlying32 Tryz.sizeOf5 rfl hRD1 rfl rfl (by omega) (by rfl)) rfl ?_
    refine TE_l rfl rfl trivial rfl (RD.ldR (i := 0) (j := 0) (u := .int .u8 ((gt ((getM [] (rawD 1) (stO ys wr)).1) 0).toNat : Int)) Tryz.isAgg5 rfl hRD1 (gt_some (by omega)) (by rfl) rfl (fun _ hw => hw.sp (fun a => by simp -failIfUnchanged <;> omega))) rfl ?_
    refine TE_q rfl rfl (RD.convI Tryz.runUnderlying5 Tryz.runUnderlying3 rfl (by omega) (by have h9 := UInt8.toNat_lt (gt (getM [] (rawD 1) (stO ys wr)).1 0); omega)) rfl ?_
    refine TE_q rfl rfl (RD.assign rfl) rfl ?_
    refine TE_nil0 ?_
    refine pn_ret ?_
    exact pn_doneS ((rd, .cells #[.pointer (some ⟨s2, 0, none⟩), .bool wr5] 128 (0, 0)) :: (s2, .cells #[sv7] 180 (0, 0)) :: HX) rfl rfl ⟨wr5, ys6, sv7, hr8, hrl9, hg10, (congrArg (Value.int .i64) (oneZ_1 hc13)), rfl⟩ (fun a => by simp -failIfUnchanged <;> omega) (ownC (.inr (by simp [keys])) (ownC (.inr (by simp [keys])) (fun e he => hX4 e (List.mem_cons_of_mem _ (List.mem_cons_of_mem _ (List.mem_append_right _ he))))))

theorem put_tip (l : List UInt8) (h : l.length ≤ 32) : putL (idV fun _ => 0).cells 0 (cat byteC l) = (idV (tipOf l)).cells := by
  have hlen : (cat byteC l).length = l.length := by rw [cat_len byteC_len, Nat.mul_one]
  apply Array.ext'
  apply List.ext_getElem?
  intro i
  have hg := get_putL (cat byteC l) (idV fun _ => 0).cells 0 i (by rw [hlen]; show 0 + l.length ≤ 32; omega)
  rw [← Array.getElem?_toList] at hg
  rw [hg, hlen]
  by_cases hi : i < 32
  · have h2 := id_at (tipOf l) hi
    rw [← Array.getElem?_toList] at h2
    rw [h2]
    split
    · rename_i h1
      have hj : i < l.length := by omega
      rw [show i - 0 = i * 1 + 0 by omega, cat_get byteC_len l i 0 (l.getD i 0) (by rw [List.getD_eq_getElem?_getD, List.getElem?_eq_getElem hj]; rfl) (by omega)]
      simp [byteC, bcell, tipOf]
    · rename_i h1
      have h3 := id_at (fun _ => 0) hi
      have h0 : tipOf l i = 0 := by
        have : l.getD i 0 = 0 := by rw [List.getD_eq_getElem?_getD, List.getElem?_eq_none (by omega)]; rfl
        rw [tipOf, this]; rfl
      rw [h0]
      first | exact h3 | (rw [← Array.getElem?_toList] at h3; exact h3)
  · have e1 : (idV (tipOf l)).cells.toList.length = 32 := rfl
    have e2 : (idV fun _ => 0).cells.size = 32 := rfl
    rw [List.getElem?_eq_none (l := (idV (tipOf l)).cells.toList) (by omega)]
    split
    · omega
    · first | exact Array.getElem?_eq_none (by omega) | (rw [Array.getElem?_toList]; exact Array.getElem?_eq_none (by omega)) | exact List.getElem?_eq_none (by rw [Array.length_toList]; omega)
def idM (o : Option (List UInt8)) : (Nat → Int) × Option (List UInt8) := (tipOf (getM [] (rawD 32) o).1, (getM [] (rawD 32) o).2)

theorem c_rdId (rd : Nat) (s2 : Nat) (sv : Value) (ys : List UInt8) (wr : Bool) (HX : Mem) (w : World) (hby : Rdb HX sv ys) (hly : ys.length ≤ 1000000) (hH : Hp ((rd, .cells #[.pointer (some ⟨s2, 0, none⟩), .bool wr] 128 (0, 0)) :: (s2, .cells #[sv] 180 (0, 0)) :: HX) w) : Calls Tryz.prog 71 #[.pointer (some ⟨rd, 0, none⟩)] w (Ret w (keys ((rd, .cells #[.pointer (some ⟨s2, 0, none⟩), .bool wr] 128 (0, 0)) :: (s2, .cells #[sv] 180 (0, 0)) :: HX)) fun v H1 => ∃ wr' ys' sv', Rdb HX sv' ys' ∧ ys'.length ≤ ys.length ∧ (idM (stO ys wr)).2 = stO ys' wr' ∧ v = idV (idM (stO ys wr)).1 ∧ H1 = (rd, .cells #[.pointer (some ⟨s2, 0, none⟩), .bool wr'] 128 (0, 0)) :: (s2, .cells #[sv'] 180 (0, 0)) :: HX) := by
  refine fn_enter (args := [_]) Tryz.func71 rfl Tryz.ntmps71 rfl hH ?_
  refine pn_seq ?_
  refine pn_plain [] rfl ?_
  refine TE_allocC (idV (fun _ => 0)).cells rfl Tryz.zeroValue36 rfl trivial rfl fun b2 hb2 => ?_
  refine TE_nil0 ?_
  refine pn_seq ?_
  refine pn_drawG [] ((b2, .cells (idV (fun _ => 0)).cells 36 (0, 0)) :: (rd, .cells #[.pointer (some ⟨s2, 0, none⟩), .bool wr] 128 (0, 0)) :: (s2, .cells #[sv] 180 (0, 0)) :: HX) [] rfl rfl (by kernel_rfl) (fun a => by simp -failIfUnchanged <;> omega) ?_
  refine TE_q rfl rfl (RD.sliceA Tryz.runUnderlying36 Tryz.sizeOf5 rfl rfl (Nat.le_refl _)) rfl ?_
  refine TE_q rfl rfl (RD.move rfl) rfl ?_
  refine TE_q rfl rfl (RD.move rfl) rfl ?_
  refine TE_q rfl rfl (RD.nilCheckP rfl) rfl ?_
  refine TE_q rfl rfl (RD.fieldAddr (o := 0) Tryz.runUnderlying128 rfl rfl Tryz.sizeOf125 rfl) rfl ?_
  refine TE_l rfl rfl trivial rfl (RD.load (i := 1) Tryz.isAgg125 rfl rfl rfl) rfl ?_
  refine TE_q rfl rfl (RD.makeFunc rfl rfl) rfl ?_
  refine TE_callM _ ((rd, .cells #[.pointer (some ⟨s2, 0, none⟩), .bool wr] 128 (0, 0)) :: (s2, .cells #[sv] 180 (0, 0)) :: HX) [(b2, .cells (idV (fun _ => 0)).cells 36 (0, 0))] ((rd, .cells #[.pointer (some ⟨s2, 0, none⟩), .bool wr] 128 (0, 0)) :: (s2, .cells #[sv] 180 (0, 0)) :: HX) rfl rfl trivial Tryz.call67 rfl rfl rfl (ownC (.inr (by simp [keys])) (ownC (.inr (by simp [keys])) own_k2)) (fun a => by simp -failIfUnchanged <;> omega) (fun w hw => c_getRaw rd s2 sv ys wr 32 HX w (hby.mono (fun _ hw => hw.sp (fun a => by simp -failIfUnchanged <;> omega))) hly (by first | assumption | omega | (simp; done) | (simp; omega)) (hw.sp (fun a => by simp -failIfUnchanged <;> omega))) (fun a => by simp -failIfUnchanged <;> omega) ?_
  rintro v11 H12 ⟨wr5, ys6, sv7, st2, hr8, hrl9, hg10, hbo3, rfl, rfl⟩ hX4
  have hRD1 : Rdx 1 (byteC) (bldMx 5 (byteC) (getM [] (rawD 32) (stO ys wr)).1 st2) (bldVx (getM [] (rawD 32) (stO ys wr)).1 st2) (getM [] (rawD 32) (stO ys wr)).1 := hbo3.rdx (u := 5) byteC_len
  refine TE_sp ((rd, .cells #[.pointer (some ⟨s2, 0, none⟩), .bool wr5] 128 (0, 0)) :: (s2, .cells #[sv7] 180 (0, 0)) :: (b2, .cells (idV (fun _ => 0)).cells 36 (0, 0)) :: ((bldMx 5 (byteC) (getM [] (rawD 32) (stO ys wr)).1 st2) ++ HX)) (fun a => by simp -failIfUnchanged <;> omega) ?_
  refine TE_copyR 2 ((getM [] (rawD 32) (stO ys wr)).1) (idV (fun _ => 0)).cells (idV (tipOf ((getM [] (rawD 32) (stO ys wr)).1))).cells ((rd, .cells #[.pointer (some ⟨s2, 0, none⟩), .bool wr5] 128 (0, 0)) :: (s2, .cells #[sv7] 180 (0, 0)) :: (b2, .cells (idV (tipOf ((getM [] (rawD 32) (stO ys wr)).1))).cells 36 (0, 0)) :: ((bldMx 5 (byteC) (getM [] (rawD 32) (stO ys wr)).1 st2) ++ HX)) rfl rfl trivial rfl Tryz.underlying32 Tryz.sizeOf5 elByteR byteC_len byteC_one rfl rfl hRD1 (fun _ hw => hw.sp (fun a => by simp -failIfUnchanged <;> omega)) getRaw_len rfl (by show 0 + _ ≤ 32; have h9 := getRaw_len (n := 32) (o := stO ys wr); omega) (.inl hb2) (put_tip _ getRaw_len) rfl ?_
  refine TE_nil ?_
  refine pn_seq ?_
  refine pn_plainG [] ((rd, .cells #[.pointer (some ⟨s2, 0, none⟩), .bool wr5] 128 (0, 0)) :: (s2, .cells #[sv7] 180 (0, 0)) :: (b2, .cells (idV (tipOf ((getM [] (rawD 32) (stO ys wr)).1))).cells 36 (0, 0)) :: HX) rfl (fun a => by simp -failIfUnchanged <;> omega) ?_
  refine TE_l rfl rfl trivial rfl (RD.loadA (i := 2) Tryz.isAgg36 Tryz.sizeOf36 rfl rfl (Nat.le_of_ble_eq_true rfl) (id_all _)) rfl ?_
  refine TE_putCW 2 (idV (tipOf ((getM [] (rawD 32) (stO ys wr)).1))).cells (idV (tipOf ((getM [] (rawD 32) (stO ys wr)).1))).cells ((rd, .cells #[.pointer (some ⟨s2, 0, none⟩), .bool wr5] 128 (0, 0)) :: (s2, .cells #[sv7] 180 (0, 0)) :: (b2, .cells (idV (tipOf ((getM [] (rawD 32) (stO ys wr)).1))).cells 36 (0, 0)) :: HX) rfl Tryz.sizeOf36 trivial rfl rfl rfl rfl rfl rfl rfl rfl (.inl hb2) ?_
  refine TE_nil0 ?_
  refine pn_ret ?_
  exact pn_doneF rfl ⟨idV (tipOf ((getM [] (rawD 32) (stO ys wr)).1)), _, b2, 0, rfl, rfl, load_agg (i := 2) Tryz.isAgg36 Tryz.sizeOf36 rfl (Nat.le_of_ble_eq_true rfl) (id_all _), rfl⟩ ⟨wr5, ys6, sv7, hr8, hrl9, hg10, rfl, rfl⟩ (fun _ h => h.sp (fun a => by simp -failIfUnchanged <;> omega)) (fun e he => Or.symm ((ownC (.inr (by simp [keys])) (ownC (.inr (by simp [keys])) (fun e he => hX4 e (List.mem_cons_of_mem _ (List.mem_cons_of_mem _ (List.mem_append_right _ he)))))) e he))

def textM (o : Option (List UInt8)) : ByteArray × Option (List UInt8) := (⟨(getM [] (bytesD 4000) o).1.toArray⟩, (getM [] (bytesD 4000) o).2)

theorem c_text (bc : Nat) (rd : Nat) (s2 : Nat) (sv : Value) (ys : List UInt8) (wr : Bool) (HX : Mem) (w : World) (hby : Rdb HX sv ys) (hly : ys.length ≤ 1000000) (hH : Hp ((bc, .cells #[.pointer (some ⟨rd, 0, none⟩)] 124 (0, 0)) :: (rd, .cells #[.pointer (some ⟨s2, 0, none⟩), .bool wr] 128 (0, 0)) :: (s2, .cells #[sv] 180 (0, 0)) :: HX) w) : Calls Tryz.prog 66 #[.pointer (some ⟨bc, 0, none⟩)] w (Ret w (keys ((rd, .cells #[.pointer (some ⟨s2, 0, none⟩), .bool wr] 128 (0, 0)) :: (s2, .cells #[sv] 180 (0, 0)) :: HX)) fun v H1 => ∃ wr' ys' sv', Rdb HX sv' ys' ∧ ys'.length ≤ ys.length ∧ (textM (stO ys wr)).2 = stO ys' wr' ∧ v = .string (textM (stO ys wr)).1 ∧ H1 = (rd, .cells #[.pointer (some ⟨s2, 0, none⟩), .bool wr'] 128 (0, 0)) :: (s2, .cells #[sv'] 180 (0, 0)) :: HX) := by
  refine fn_enter (args := [_]) Tryz.func66 rfl Tryz.ntmps66 rfl hH ?_
  refine pn_seq ?_
  refine pn_plain [] rfl ?_
  refine TE_q rfl rfl (RD.assign rfl) rfl ?_
  refine TE_nil0 ?_
  refine pn_seq ?_
  refine pn_drawG [0, 1] ((rd, .cells #[.pointer (some ⟨s2, 0, none⟩), .bool wr] 128 (0, 0)) :: (s2, .cells #[sv] 180 (0, 0)) :: HX) [(bc, .cells #[.pointer (some ⟨rd, 0, none⟩)] 124 (0, 0))] rfl rfl (by kernel_rfl) (fun a => by simp -failIfUnchanged <;> omega) ?_
  refine TE_q rfl rfl (RD.load (i := 0) Tryz.isAgg124 rfl rfl rfl) rfl ?_
  refine TE_q rfl rfl (RD.load (i := 0) Tryz.isAgg124 rfl rfl rfl) rfl ?_
  refine TE_q rfl rfl (RD.nilCheckP rfl) rfl ?_
  refine TE_q rfl rfl (RD.fieldAddr (o := 0) Tryz.runUnderlying128 rfl rfl Tryz.sizeOf125 rfl) rfl ?_
  refine TE_l rfl rfl trivial rfl (RD.load (i := 0) Tryz.isAgg125 rfl rfl rfl) rfl ?_
  refine TE_q rfl rfl (RD.makeFunc rfl rfl) rfl ?_
  refine TE_callM _ ((rd, .cells #[.pointer (some ⟨s2, 0, none⟩), .bool wr] 128 (0, 0)) :: (s2, .cells #[sv] 180 (0, 0)) :: HX) [] ((rd, .cells #[.pointer (some ⟨s2, 0, none⟩), .bool wr] 128 (0, 0)) :: (s2, .cells #[sv] 180 (0, 0)) :: HX) rfl rfl trivial Tryz.call67 rfl rfl rfl (ownC (.inr (by simp [keys])) (ownC (.inr (by simp [keys])) own_k2)) (fun a => by simp -failIfUnchanged <;> omega) (fun w hw => c_getBytes rd s2 sv ys wr 4000 HX w (hby.mono (fun _ hw => hw.sp (fun a => by simp -failIfUnchanged <;> omega))) hly (by first | assumption | omega | (simp; done) | (simp; omega)) (hw.sp (fun a => by simp -failIfUnchanged <;> omega))) (fun a => by simp -failIfUnchanged <;> omega) ?_
  rintro v11 H12 ⟨wr5, ys6, sv7, st2, hr8, hrl9, hg10, hbo3, rfl, rfl⟩ hX4
  have hRD1 : Rdx 1 (byteC) (bldMx 5 (byteC) (getM [] (bytesD 4000) (stO ys wr)).1 st2) (bldVx (getM [] (bytesD 4000) (stO ys wr)).1 st2) (getM [] (bytesD 4000) (stO ys wr)).1 := hbo3.rdx (u := 5) byteC_len
  refine TE_sp ((rd, .cells #[.pointer (some ⟨s2, 0, none⟩), .bool wr5] 128 (0, 0)) :: (s2, .cells #[sv7] 180 (0, 0)) :: ((bldMx 5 (byteC) (getM [] (bytesD 4000) (stO ys wr)).1 st2) ++ HX)) (fun a => by simp -failIfUnchanged <;> omega) ?_
  refine TE_l rfl rfl trivial rfl (RD.str_of_bytes Tryz.underlying32 Tryz.underlying9 Tryz.underlying5 rfl (BytesIn.mono ((Rdb.of_x hRD1)).bytes (fun _ hw => hw.sp (fun a => by simp -failIfUnchanged <;> omega)))) rfl ?_
  refine TE_q rfl rfl (RD.assign rfl) rfl ?_
  refine TE_nil ?_
  refine pn_ret ?_
  exact pn_doneS ((rd, .cells #[.pointer (some ⟨s2, 0, none⟩), .bool wr5] 128 (0, 0)) :: (s2, .cells #[sv7] 180 (0, 0)) :: HX) rfl rfl ⟨wr5, ys6, sv7, hr8, hrl9, hg10, rfl, rfl⟩ (fun a => by simp -failIfUnchanged <;> omega) (ownC (.inr (by simp [keys])) (ownC (.inr (by simp [keys])) (fun e he => hX4 e (List.mem_cons_of_mem _ (List.mem_cons_of_mem _ (List.mem_append_right _ he))))))

end Go.Proofs.YtloljpefdecmhaaGreatDoor
