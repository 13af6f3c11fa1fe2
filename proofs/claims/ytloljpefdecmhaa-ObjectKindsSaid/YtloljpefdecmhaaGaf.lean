import Derived.Test.YtloljpefdecmhaaGae
namespace Go.Proofs.Ytloljpefdecmhaa
open Go Go.Mv
set_option maxRecDepth 8000
theorem c_gRaw (HX : Mem) (s : Nat) (sv : Value) (ys : List UInt8) (n : Nat) (w : World) (hb : Rdb HX sv ys) (hlen : ys.length ≤ 1000000) (hw : Hp ((s, .cells #[sv] 88 (0, 0)) :: HX) w) : Calls Try.prog 44 #[.pointer (some ⟨s, 0, none⟩), .int .i64 (n : Int)] w (Ret w (keys ((s, .cells #[sv] 88 (0, 0)) :: HX)) fun v H1 => (∃ b r sv' st', rawD n ys = .ok b r ∧ BldOk 1 (byteC) b st' ∧ Rdb HX sv' r ∧ r.length ≤ ys.length ∧ v = .tuple #[bldVx b st', .int .i64 0] ∧ H1 = (bldMx 5 (byteC) b st' ++ ((s, .cells #[sv'] 88 (0, 0)) :: HX))) ∨ (∃ e sv' r, rawD n ys = .err e ∧ e ≠ 0 ∧ Rdb HX sv' r ∧ r.length ≤ ys.length ∧ v = .tuple #[.slice none 0 0, .int .i64 e] ∧ H1 = ((s, .cells #[sv'] 88 (0, 0)) :: HX))) := by
  refine (c_raw HX s n sv ys w hb (by omega) hw).mono ?_
  rintro e w' ⟨v, H1, rfl, ⟨b, r, v', x, H2, hd, rfl, hret, rfl, hr, hrl⟩ | ⟨e, v', r, hd, he, rfl, rfl, hr, hrl⟩, h3⟩
  · obtain ⟨st, h1, rfl, rfl⟩ := hret.bld
    rw [← bldMx_b] at h3
    exact ⟨_, _, rfl, .inl ⟨b, r, v', st, hd, BldOk.of_snk h1, hr, hrl, by rw [bldVx_b], rfl⟩, h3⟩
  · exact ⟨_, _, rfl, .inr ⟨e, v', r, hd, he, hr, hrl, rfl, rfl⟩, h3⟩
theorem c_gBytes (HX : Mem) (s : Nat) (sv : Value) (ys : List UInt8) (n : Nat) (w : World) (hb : Rdb HX sv ys) (hlen : ys.length ≤ 1000000) (hn : n ≤ 9223372036854775807) (hw : Hp ((s, .cells #[sv] 88 (0, 0)) :: HX) w) : Calls Try.prog 36 #[.pointer (some ⟨s, 0, none⟩), .int .i64 (n : Int)] w (Ret w (keys ((s, .cells #[sv] 88 (0, 0)) :: HX)) fun v H1 => (∃ b r sv' st', bytesD n ys = .ok b r ∧ BldOk 1 (byteC) b st' ∧ Rdb HX sv' r ∧ r.length ≤ ys.length ∧ v = .tuple #[bldVx b st', .int .i64 0] ∧ H1 = (bldMx 5 (byteC) b st' ++ ((s, .cells #[sv'] 88 (0, 0)) :: HX))) ∨ (∃ e sv' r, bytesD n ys = .err e ∧ e ≠ 0 ∧ Rdb HX sv' r ∧ r.length ≤ ys.length ∧ v = .tuple #[.slice none 0 0, .int .i64 e] ∧ H1 = ((s, .cells #[sv'] 88 (0, 0)) :: HX))) := by
  refine (c_bytes HX s n sv ys w hb (by omega) hn hw).mono ?_
  rintro e w' ⟨v, H1, rfl, ⟨b, r, v', x, H2, hd, rfl, hret, rfl, hr, hrl⟩ | ⟨e, v', r, hd, he, rfl, rfl, hr, hrl⟩, h3⟩
  · obtain ⟨st, h1, rfl, rfl⟩ := hret.bld
    rw [← bldMx_b] at h3
    exact ⟨_, _, rfl, .inl ⟨b, r, v', st, hd, BldOk.of_snk h1, hr, hrl, by rw [bldVx_b], rfl⟩, h3⟩
  · exact ⟨_, _, rfl, .inr ⟨e, v', r, hd, he, hr, hrl, rfl, rfl⟩, h3⟩
theorem c_gNum (HX : Mem) (s : Nat) (sv : Value) (ys : List UInt8) (n : Nat) (w : World) (hb : Rdb HX sv ys) (hlen : ys.length ≤ 1000000) (hn : n < 18446744073709551616) (hw : Hp ((s, .cells #[sv] 88 (0, 0)) :: HX) w) : Calls Try.prog 46 #[.pointer (some ⟨s, 0, none⟩), .int .u64 (n : Int)] w (Ret w (keys ((s, .cells #[sv] 88 (0, 0)) :: HX)) fun v H1 => (∃ x r sv', numD n ys = .ok x r ∧ Rdb HX sv' r ∧ r.length ≤ ys.length ∧ v = .tuple #[.int .u64 (x : Int), .int .i64 0] ∧ H1 = ((s, .cells #[sv'] 88 (0, 0)) :: HX)) ∨ (∃ e sv' r, numD n ys = .err e ∧ e ≠ 0 ∧ Rdb HX sv' r ∧ r.length ≤ ys.length ∧ v = .tuple #[.int .u64 0, .int .i64 e] ∧ H1 = ((s, .cells #[sv'] 88 (0, 0)) :: HX))) := by
  refine (c_num HX s n sv ys w hb (by omega) hn hw).mono ?_
  rintro e w' ⟨v, H1, rfl, ⟨x, r, v', hd, rfl, rfl, hr, hrl⟩ | ⟨e, v', r, hd, he, rfl, rfl, hr, hrl⟩, h3⟩
  · exact ⟨_, _, rfl, .inl ⟨x, r, v', hd, hr, hrl, rfl, rfl⟩, h3⟩
  · exact ⟨_, _, rfl, .inr ⟨e, v', r, hd, he, hr, hrl, rfl, rfl⟩, h3⟩

theorem own_k2 {a b : Nat × Obj} {HX : Mem} {m : Nat} : ∀ e ∈ HX, m ≤ e.1 ∨ e.1 ∈ keys (a :: b :: HX) := fun e he => .inr (mem_keys.2 ⟨e, by simp [he], rfl⟩)
def stO (ys : List UInt8) (wr : Bool) : Option (List UInt8) := if wr then none else some ys
def getM {α : Type} (z : α) (d : List UInt8 → Dr α) : Option (List UInt8) → α × Option (List UInt8)
  | none => (z, none)
  | some ys => match d ys with
    | .ok x r => (x, some r)
    | .err _ => (z, none)
theorem getM_ok {α : Type} {z x : α} {d : List UInt8 → Dr α} {ys r : List UInt8} (h : d ys = .ok x r) : getM z d (stO ys false) = (x, stO r false) := by simp [getM, stO, h]
theorem getM_err {α : Type} {z : α} {e : Int} {d : List UInt8 → Dr α} {ys r : List UInt8} (h : d ys = .err e) : getM z d (stO ys false) = (z, stO r true) := by simp [getM, stO, h]
theorem c_getRaw (rd : Nat) (s2 : Nat) (sv : Value) (ys : List UInt8) (wr : Bool) (n : Nat) (HX : Mem) (w : World) (hby : Rdb HX sv ys) (hly : ys.length ≤ 1000000) (hn : n ≤ 1000000) (hH : Hp ((rd, .cells #[.pointer (some ⟨s2, 0, none⟩), .bool wr] 77 (0, 0)) :: (s2, .cells #[sv] 88 (0, 0)) :: HX) w) : Calls Try.prog 35 #[.pointer (some ⟨rd, 0, none⟩), .func (.func 44) #[.pointer (some ⟨s2, 0, none⟩)] #[], .int .i64 (n : Int)] w (Ret w (keys ((rd, .cells #[.pointer (some ⟨s2, 0, none⟩), .bool wr] 77 (0, 0)) :: (s2, .cells #[sv] 88 (0, 0)) :: HX)) fun v H1 => ∃ wr' ys' sv' st', Rdb HX sv' ys' ∧ ys'.length ≤ ys.length ∧ (getM [] (rawD n) (stO ys wr)).2 = stO ys' wr' ∧ BldOk 1 (byteC) (getM [] (rawD n) (stO ys wr)).1 st' ∧ v = bldVx (getM [] (rawD n) (stO ys wr)).1 st' ∧ H1 = (rd, .cells #[.pointer (some ⟨s2, 0, none⟩), .bool wr'] 77 (0, 0)) :: (s2, .cells #[sv'] 88 (0, 0)) :: (bldMx 5 (byteC) (getM [] (rawD n) (stO ys wr)).1 st' ++ HX)) := by
  refine fn_enter (args := [_, _, _]) Try.func35 rfl Try.ntmps35 rfl hH ?_
  refine pn_seq ?_
  refine pn_plain [] rfl ?_
  refine TE_q rfl rfl (RD.assign rfl) rfl ?_
  refine TE_nil0 ?_
  refine pn_seq ?_
  refine pn_plain [] rfl ?_
  refine TE_q rfl rfl (RD.assign rfl) rfl ?_
  refine TE_nil0 ?_
  refine pn_seq ?_
  refine pn_seq ?_
  refine pn_plain [] rfl ?_
  refine TE_q rfl rfl (RD.move rfl) rfl ?_
  refine TE_q rfl rfl (RD.nilCheckP rfl) rfl ?_
  refine TE_q rfl rfl (RD.fieldAddr (o := 1) Try.runUnderlying77 rfl rfl Try.sizeOf4 rfl) rfl ?_
  refine TE_l rfl rfl trivial rfl (RD.load (i := 0) Try.isAgg4 rfl rfl rfl) rfl ?_
  refine TE_nil0 ?_
  refine pn_cond rfl (fun hc1 => ?_) (fun hc1 => ?_)
  · refine pn_seq ?_
    refine pn_plain [] rfl ?_
    refine TE_q rfl rfl (RD.move rfl) rfl ?_
    refine TE_q rfl rfl (RD.assign rfl) rfl ?_
    refine TE_nil0 ?_
    refine pn_ret ?_
    have hg2 : (getM [] (rawD n) (stO ys wr)) = ([], stO ys wr) := (by rw [hc1]; rfl)
    exact pn_doneS ((rd, .cells #[.pointer (some ⟨s2, 0, none⟩), .bool wr] 77 (0, 0)) :: (s2, .cells #[sv] 88 (0, 0)) :: HX) rfl rfl ⟨wr, ys, sv, none, hby, (Nat.le_refl _), (by rw [hg2]), (by rw [hg2]; exact (show BldOk 1 (byteC) [] none from rfl)), (by rw [hg2]; rfl), (by rw [hg2]; rfl)⟩ (fun a => by simp -failIfUnchanged <;> omega) (ownC (.inr (by simp [keys])) (ownC (.inr (by simp [keys])) own_k2))
  · refine pn_skip ?_
    refine pn_seq ?_
    refine pn_plain [] rfl ?_
    refine TE_q rfl rfl (RD.move rfl) rfl ?_
    refine TE_q rfl rfl (RD.move rfl) rfl ?_
    refine TE_callM _ ((s2, .cells #[sv] 88 (0, 0)) :: HX) [(rd, .cells #[.pointer (some ⟨s2, 0, none⟩), .bool wr] 77 (0, 0))] ((s2, .cells #[sv] 88 (0, 0)) :: HX) rfl rfl trivial Try.call44 rfl rfl rfl (ownC (.inr (by simp [keys])) own_k2) (fun a => by simp -failIfUnchanged <;> omega) (fun w hw => c_gRaw HX s2 sv ys n w (hby.mono (fun _ hw => hw.sp (fun a => by simp -failIfUnchanged <;> omega))) hly (hw.sp (fun a => by simp -failIfUnchanged <;> omega))) (fun a => by simp -failIfUnchanged <;> omega) ?_
    rintro v15 H16 (⟨x12, r4, sv5, st6, hd7, hbo10, hr8, hrl9, rfl, rfl⟩ | ⟨e13, sv5, r4, hd7, hne14, hr8, hrl9, rfl, rfl⟩) hX17
    · have hRD11 : Rdx 1 (byteC) (bldMx 5 (byteC) x12 st6) (bldVx x12 st6) x12 := hbo10.rdx (u := 5) byteC_len; refine TE_sp ((s2, .cells #[sv5] 88 (0, 0)) :: (rd, .cells #[.pointer (some ⟨s2, 0, none⟩), .bool wr] 77 (0, 0)) :: ((bldMx 5 (byteC) x12 st6) ++ HX)) (fun a => by simp -failIfUnchanged <;> omega) ?_
      refine TE_q rfl rfl (RD.move rfl) rfl ?_
      refine TE_q rfl rfl (RD.extract rfl rfl) rfl ?_
      refine TE_q rfl rfl (RD.extract rfl rfl) rfl ?_
      refine TE_q rfl rfl (RD.assign rfl) rfl ?_
      refine TE_q rfl rfl (RD.assign rfl) rfl ?_
      refine TE_nil0 ?_
      refine pn_seq ?_
      refine pn_seq ?_
      refine pn_plain [] rfl ?_
      refine TE_q rfl rfl (RD.move rfl) rfl ?_
      refine TE_q rfl rfl (RD.move rfl) rfl ?_
      refine TE_q rfl rfl (RD.as (v := .bool false) (RD.neq rfl rfl) rfl) rfl ?_
      refine TE_q rfl rfl (RD.nilCheckP rfl) rfl ?_
      refine TE_q rfl rfl (RD.fieldAddr (o := 1) Try.runUnderlying77 rfl rfl Try.sizeOf4 rfl) rfl ?_
      refine TE_storeC 1 #[.pointer (some ⟨s2, 0, none⟩), .bool wr] #[.pointer (some ⟨s2, 0, none⟩), .bool false] ((s2, .cells #[sv5] 88 (0, 0)) :: (rd, .cells #[.pointer (some ⟨s2, 0, none⟩), .bool false] 77 (0, 0)) :: ((bldMx 5 (byteC) x12 st6) ++ HX)) rfl Try.sizeOf4 trivial rfl rfl rfl rfl rfl rfl rfl rfl (.inr (by simp [keys])) ?_
      refine TE_nil0 ?_
      refine pn_seq ?_
      refine pn_plain [] rfl ?_
      refine TE_q rfl rfl (RD.move rfl) rfl ?_
      refine TE_q rfl rfl (RD.nilCheckP rfl) rfl ?_
      refine TE_q rfl rfl (RD.fieldAddr (o := 1) Try.runUnderlying77 rfl rfl Try.sizeOf4 rfl) rfl ?_
      refine TE_l rfl rfl trivial rfl (RD.load (i := 1) Try.isAgg4 rfl rfl rfl) rfl ?_
      refine TE_nil0 ?_
      refine pn_condF rfl ?_
      refine pn_skip ?_
      refine pn_seq ?_
      refine pn_plain [] rfl ?_
      refine TE_q rfl rfl (RD.move rfl) rfl ?_
      refine TE_q rfl rfl (RD.assign rfl) rfl ?_
      refine TE_nil0 ?_
      refine pn_ret ?_
      have hg18 : (getM [] (rawD n) (stO ys wr)) = (x12, stO r4 false) := (by rw [hc1]; exact getM_ok hd7)
      exact pn_doneS ((rd, .cells #[.pointer (some ⟨s2, 0, none⟩), .bool false] 77 (0, 0)) :: (s2, .cells #[sv5] 88 (0, 0)) :: ((bldMx 5 (byteC) x12 st6) ++ HX)) rfl rfl ⟨false, r4, sv5, st6, hr8, hrl9, (by rw [hg18]), (by rw [hg18]; exact hbo10), (by rw [hg18]; rfl), (by rw [hg18])⟩ (fun a => by simp -failIfUnchanged <;> omega) (ownC (.inr (by simp [keys])) (ownC (.inr (by simp [keys])) (ownA (fun e he => hX17 e (List.mem_append_left _ he)) (fun e he => hX17 e (List.mem_append_right _ (List.mem_cons_of_mem _ he))))))
    · refine TE_sp ((s2, .cells #[sv5] 88 (0, 0)) :: (rd, .cells #[.pointer (some ⟨s2, 0, none⟩), .bool wr] 77 (0, 0)) :: HX) (fun a => by simp -failIfUnchanged <;> omega) ?_
      refine TE_q rfl rfl (RD.move rfl) rfl ?_
      refine TE_q rfl rfl (RD.extract rfl rfl) rfl ?_
      refine TE_q rfl rfl (RD.extract rfl rfl) rfl ?_
      refine TE_q rfl rfl (RD.assign rfl) rfl ?_
      refine TE_q rfl rfl (RD.assign rfl) rfl ?_
      refine TE_nil0 ?_
      refine pn_seq ?_
      refine pn_seq ?_
      refine pn_plain [] rfl ?_
      refine TE_q rfl rfl (RD.move rfl) rfl ?_
      refine TE_q rfl rfl (RD.move rfl) rfl ?_
      refine TE_q rfl rfl (RD.as (v := .bool true) (RD.neq rfl rfl) (congrArg Value.bool (by simp [hne14]))) rfl ?_
      refine TE_q rfl rfl (RD.nilCheckP rfl) rfl ?_
      refine TE_q rfl rfl (RD.fieldAddr (o := 1) Try.runUnderlying77 rfl rfl Try.sizeOf4 rfl) rfl ?_
      refine TE_storeC 1 #[.pointer (some ⟨s2, 0, none⟩), .bool wr] #[.pointer (some ⟨s2, 0, none⟩), .bool true] ((s2, .cells #[sv5] 88 (0, 0)) :: (rd, .cells #[.pointer (some ⟨s2, 0, none⟩), .bool true] 77 (0, 0)) :: HX) rfl Try.sizeOf4 trivial rfl rfl rfl rfl rfl rfl rfl rfl (.inr (by simp [keys])) ?_
      refine TE_nil0 ?_
      refine pn_seq ?_
      refine pn_plain [] rfl ?_
      refine TE_q rfl rfl (RD.move rfl) rfl ?_
      refine TE_q rfl rfl (RD.nilCheckP rfl) rfl ?_
      refine TE_q rfl rfl (RD.fieldAddr (o := 1) Try.runUnderlying77 rfl rfl Try.sizeOf4 rfl) rfl ?_
      refine TE_l rfl rfl trivial rfl (RD.load (i := 1) Try.isAgg4 rfl rfl rfl) rfl ?_
      refine TE_nil0 ?_
      refine pn_condT rfl ?_
      refine pn_seq ?_
      refine pn_plain [] rfl ?_
      refine TE_q rfl rfl (RD.move rfl) rfl ?_
      refine TE_q rfl rfl (RD.assign rfl) rfl ?_
      refine TE_nil0 ?_
      refine pn_ret ?_
      have hg19 : (getM [] (rawD n) (stO ys wr)) = ([], stO r4 true) := (by rw [hc1]; exact getM_err hd7)
      exact pn_doneS ((rd, .cells #[.pointer (some ⟨s2, 0, none⟩), .bool true] 77 (0, 0)) :: (s2, .cells #[sv5] 88 (0, 0)) :: HX) rfl rfl ⟨true, r4, sv5, none, hr8, hrl9, (by rw [hg19]), (by rw [hg19]; exact (show BldOk 1 (byteC) [] none from rfl)), (by rw [hg19]; rfl), (by rw [hg19]; rfl)⟩ (fun a => by simp -failIfUnchanged <;> omega) (ownC (.inr (by simp [keys])) (ownC (.inr (by simp [keys])) (fun e he => hX17 e (List.mem_cons_of_mem _ he))))

theorem c_getBytes (rd : Nat) (s2 : Nat) (sv : Value) (ys : List UInt8) (wr : Bool) (n : Nat) (HX : Mem) (w : World) (hby : Rdb HX sv ys) (hly : ys.length ≤ 1000000) (hn : n ≤ 1000000) (hH : Hp ((rd, .cells #[.pointer (some ⟨s2, 0, none⟩), .bool wr] 77 (0, 0)) :: (s2, .cells #[sv] 88 (0, 0)) :: HX) w) : Calls Try.prog 35 #[.pointer (some ⟨rd, 0, none⟩), .func (.func 36) #[.pointer (some ⟨s2, 0, none⟩)] #[], .int .i64 (n : Int)] w (Ret w (keys ((rd, .cells #[.pointer (some ⟨s2, 0, none⟩), .bool wr] 77 (0, 0)) :: (s2, .cells #[sv] 88 (0, 0)) :: HX)) fun v H1 => ∃ wr' ys' sv' st', Rdb HX sv' ys' ∧ ys'.length ≤ ys.length ∧ (getM [] (bytesD n) (stO ys wr)).2 = stO ys' wr' ∧ BldOk 1 (byteC) (getM [] (bytesD n) (stO ys wr)).1 st' ∧ v = bldVx (getM [] (bytesD n) (stO ys wr)).1 st' ∧ H1 = (rd, .cells #[.pointer (some ⟨s2, 0, none⟩), .bool wr'] 77 (0, 0)) :: (s2, .cells #[sv'] 88 (0, 0)) :: (bldMx 5 (byteC) (getM [] (bytesD n) (stO ys wr)).1 st' ++ HX)) := by
  refine fn_enter (args := [_, _, _]) Try.func35 rfl Try.ntmps35 rfl hH ?_
  refine pn_seq ?_
  refine pn_plain [] rfl ?_
  refine TE_q rfl rfl (RD.assign rfl) rfl ?_
  refine TE_nil0 ?_
  refine pn_seq ?_
  refine pn_plain [] rfl ?_
  refine TE_q rfl rfl (RD.assign rfl) rfl ?_
  refine TE_nil0 ?_
  refine pn_seq ?_
  refine pn_seq ?_
  refine pn_plain [] rfl ?_
  refine TE_q rfl rfl (RD.move rfl) rfl ?_
  refine TE_q rfl rfl (RD.nilCheckP rfl) rfl ?_
  refine TE_q rfl rfl (RD.fieldAddr (o := 1) Try.runUnderlying77 rfl rfl Try.sizeOf4 rfl) rfl ?_
  refine TE_l rfl rfl trivial rfl (RD.load (i := 0) Try.isAgg4 rfl rfl rfl) rfl ?_
  refine TE_nil0 ?_
  refine pn_cond rfl (fun hc1 => ?_) (fun hc1 => ?_)
  · refine pn_seq ?_
    refine pn_plain [] rfl ?_
    refine TE_q rfl rfl (RD.move rfl) rfl ?_
    refine TE_q rfl rfl (RD.assign rfl) rfl ?_
    refine TE_nil0 ?_
    refine pn_ret ?_
    have hg2 : (getM [] (bytesD n) (stO ys wr)) = ([], stO ys wr) := (by rw [hc1]; rfl)
    exact pn_doneS ((rd, .cells #[.pointer (some ⟨s2, 0, none⟩), .bool wr] 77 (0, 0)) :: (s2, .cells #[sv] 88 (0, 0)) :: HX) rfl rfl ⟨wr, ys, sv, none, hby, (Nat.le_refl _), (by rw [hg2]), (by rw [hg2]; exact (show BldOk 1 (byteC) [] none from rfl)), (by rw [hg2]; rfl), (by rw [hg2]; rfl)⟩ (fun a => by simp -failIfUnchanged <;> omega) (ownC (.inr (by simp [keys])) (ownC (.inr (by simp [keys])) own_k2))
  · refine pn_skip ?_
    refine pn_seq ?_
    refine pn_plain [] rfl ?_
    refine TE_q rfl rfl (RD.move rfl) rfl ?_
    refine TE_q rfl rfl (RD.move rfl) rfl ?_
    refine TE_callM _ ((s2, .cells #[sv] 88 (0, 0)) :: HX) [(rd, .cells #[.pointer (some ⟨s2, 0, none⟩), .bool wr] 77 (0, 0))] ((s2, .cells #[sv] 88 (0, 0)) :: HX) rfl rfl trivial Try.call36 rfl rfl rfl (ownC (.inr (by simp [keys])) own_k2) (fun a => by simp -failIfUnchanged <;> omega) (fun w hw => c_gBytes HX s2 sv ys n w (hby.mono (fun _ hw => hw.sp (fun a => by simp -failIfUnchanged <;> omega))) hly (by omega) (hw.sp (fun a => by simp -failIfUnchanged <;> omega))) (fun a => by simp -failIfUnchanged <;> omega) ?_
    rintro v15 H16 (⟨x12, r4, sv5, st6, hd7, hbo10, hr8, hrl9, rfl, rfl⟩ | ⟨e13, sv5, r4, hd7, hne14, hr8, hrl9, rfl, rfl⟩) hX17
    · have hRD11 : Rdx 1 (byteC) (bldMx 5 (byteC) x12 st6) (bldVx x12 st6) x12 := hbo10.rdx (u := 5) byteC_len; refine TE_sp ((s2, .cells #[sv5] 88 (0, 0)) :: (rd, .cells #[.pointer (some ⟨s2, 0, none⟩), .bool wr] 77 (0, 0)) :: ((bldMx 5 (byteC) x12 st6) ++ HX)) (fun a => by simp -failIfUnchanged <;> omega) ?_
      refine TE_q rfl rfl (RD.move rfl) rfl ?_
      refine TE_q rfl rfl (RD.extract rfl rfl) rfl ?_
      refine TE_q rfl rfl (RD.extract rfl rfl) rfl ?_
      refine TE_q rfl rfl (RD.assign rfl) rfl ?_
      refine TE_q rfl rfl (RD.assign rfl) rfl ?_
      refine TE_nil0 ?_
      refine pn_seq ?_
      refine pn_seq ?_
      refine pn_plain [] rfl ?_
      refine TE_q rfl rfl (RD.move rfl) rfl ?_
      refine TE_q rfl rfl (RD.move rfl) rfl ?_
      refine TE_q rfl rfl (RD.as (v := .bool false) (RD.neq rfl rfl) rfl) rfl ?_
      refine TE_q rfl rfl (RD.nilCheckP rfl) rfl ?_
      refine TE_q rfl rfl (RD.fieldAddr (o := 1) Try.runUnderlying77 rfl rfl Try.sizeOf4 rfl) rfl ?_
      refine TE_storeC 1 #[.pointer (some ⟨s2, 0, none⟩), .bool wr] #[.pointer (some ⟨s2, 0, none⟩), .bool false] ((s2, .cells #[sv5] 88 (0, 0)) :: (rd, .cells #[.pointer (some ⟨s2, 0, none⟩), .bool false] 77 (0, 0)) :: ((bldMx 5 (byteC) x12 st6) ++ HX)) rfl Try.sizeOf4 trivial rfl rfl rfl rfl rfl rfl rfl rfl (.inr (by simp [keys])) ?_
      refine TE_nil0 ?_
      refine pn_seq ?_
      refine pn_plain [] rfl ?_
      refine TE_q rfl rfl (RD.move rfl) rfl ?_
      refine TE_q rfl rfl (RD.nilCheckP rfl) rfl ?_
      refine TE_q rfl rfl (RD.fieldAddr (o := 1) Try.runUnderlying77 rfl rfl Try.sizeOf4 rfl) rfl ?_
      refine TE_l rfl rfl trivial rfl (RD.load (i := 1) Try.isAgg4 rfl rfl rfl) rfl ?_
      refine TE_nil0 ?_
      refine pn_condF rfl ?_
      refine pn_skip ?_
      refine pn_seq ?_
      refine pn_plain [] rfl ?_
      refine TE_q rfl rfl (RD.move rfl) rfl ?_
      refine TE_q rfl rfl (RD.assign rfl) rfl ?_
      refine TE_nil0 ?_
      refine pn_ret ?_
      have hg18 : (getM [] (bytesD n) (stO ys wr)) = (x12, stO r4 false) := (by rw [hc1]; exact getM_ok hd7)
      exact pn_doneS ((rd, .cells #[.pointer (some ⟨s2, 0, none⟩), .bool false] 77 (0, 0)) :: (s2, .cells #[sv5] 88 (0, 0)) :: ((bldMx 5 (byteC) x12 st6) ++ HX)) rfl rfl ⟨false, r4, sv5, st6, hr8, hrl9, (by rw [hg18]), (by rw [hg18]; exact hbo10), (by rw [hg18]; rfl), (by rw [hg18])⟩ (fun a => by simp -failIfUnchanged <;> omega) (ownC (.inr (by simp [keys])) (ownC (.inr (by simp [keys])) (ownA (fun e he => hX17 e (List.mem_append_left _ he)) (fun e he => hX17 e (List.mem_append_right _ (List.mem_cons_of_mem _ he))))))
    · refine TE_sp ((s2, .cells #[sv5] 88 (0, 0)) :: (rd, .cells #[.pointer (some ⟨s2, 0, none⟩), .bool wr] 77 (0, 0)) :: HX) (fun a => by simp -failIfUnchanged <;> omega) ?_
      refine TE_q rfl rfl (RD.move rfl) rfl ?_
      refine TE_q rfl rfl (RD.extract rfl rfl) rfl ?_
      refine TE_q rfl rfl (RD.extract rfl rfl) rfl ?_
      refine TE_q rfl rfl (RD.assign rfl) rfl ?_
      refine TE_q rfl rfl (RD.assign rfl) rfl ?_
      refine TE_nil0 ?_
      refine pn_seq ?_
      refine pn_seq ?_
      refine pn_plain [] rfl ?_
      refine TE_q rfl rfl (RD.move rfl) rfl ?_
      refine TE_q rfl rfl (RD.move rfl) rfl ?_
      refine TE_q rfl rfl (RD.as (v := .bool true) (RD.neq rfl rfl) (congrArg Value.bool (by simp [hne14]))) rfl ?_
      refine TE_q rfl rfl (RD.nilCheckP rfl) rfl ?_
      refine TE_q rfl rfl (RD.fieldAddr (o := 1) Try.runUnderlying77 rfl rfl Try.sizeOf4 rfl) rfl ?_
      refine TE_storeC 1 #[.pointer (some ⟨s2, 0, none⟩), .bool wr] #[.pointer (some ⟨s2, 0, none⟩), .bool true] ((s2, .cells #[sv5] 88 (0, 0)) :: (rd, .cells #[.pointer (some ⟨s2, 0, none⟩), .bool true] 77 (0, 0)) :: HX) rfl Try.sizeOf4 trivial rfl rfl rfl rfl rfl rfl rfl rfl (.inr (by simp [keys])) ?_
      refine TE_nil0 ?_
      refine pn_seq ?_
      refine pn_plain [] rfl ?_
      refine TE_q rfl rfl (RD.move rfl) rfl ?_
      refine TE_q rfl rfl (RD.nilCheckP rfl) rfl ?_
      refine TE_q rfl rfl (RD.fieldAddr (o := 1) Try.runUnderlying77 rfl rfl Try.sizeOf4 rfl) rfl ?_
      refine TE_l rfl rfl trivial rfl (RD.load (i := 1) Try.isAgg4 rfl rfl rfl) rfl ?_
      refine TE_nil0 ?_
      refine pn_condT rfl ?_
      refine pn_seq ?_
      refine pn_plain [] rfl ?_
      refine TE_q rfl rfl (RD.move rfl) rfl ?_
      refine TE_q rfl rfl (RD.assign rfl) rfl ?_
      refine TE_nil0 ?_
      refine pn_ret ?_
      have hg19 : (getM [] (bytesD n) (stO ys wr)) = ([], stO r4 true) := (by rw [hc1]; exact getM_err hd7)
      exact pn_doneS ((rd, .cells #[.pointer (some ⟨s2, 0, none⟩), .bool true] 77 (0, 0)) :: (s2, .cells #[sv5] 88 (0, 0)) :: HX) rfl rfl ⟨true, r4, sv5, none, hr8, hrl9, (by rw [hg19]), (by rw [hg19]; exact (show BldOk 1 (byteC) [] none from rfl)), (by rw [hg19]; rfl), (by rw [hg19]; rfl)⟩ (fun a => by simp -failIfUnchanged <;> omega) (ownC (.inr (by simp [keys])) (ownC (.inr (by simp [keys])) (fun e he => hX17 e (List.mem_cons_of_mem _ he))))

theorem c_getNum (rd : Nat) (s2 : Nat) (sv : Value) (ys : List UInt8) (wr : Bool) (n : Nat) (HX : Mem) (w : World) (hby : Rdb HX sv ys) (hly : ys.length ≤ 1000000) (hn : n ≤ 1000000) (hH : Hp ((rd, .cells #[.pointer (some ⟨s2, 0, none⟩), .bool wr] 77 (0, 0)) :: (s2, .cells #[sv] 88 (0, 0)) :: HX) w) : Calls Try.prog 47 #[.pointer (some ⟨rd, 0, none⟩), .func (.func 46) #[.pointer (some ⟨s2, 0, none⟩)] #[], .int .u64 (n : Int)] w (Ret w (keys ((rd, .cells #[.pointer (some ⟨s2, 0, none⟩), .bool wr] 77 (0, 0)) :: (s2, .cells #[sv] 88 (0, 0)) :: HX)) fun v H1 => ∃ wr' ys' sv', Rdb HX sv' ys' ∧ ys'.length ≤ ys.length ∧ (getM 0 (numD n) (stO ys wr)).2 = stO ys' wr' ∧ v = .int .u64 (((getM 0 (numD n) (stO ys wr)).1 : Nat) : Int) ∧ H1 = (rd, .cells #[.pointer (some ⟨s2, 0, none⟩), .bool wr'] 77 (0, 0)) :: (s2, .cells #[sv'] 88 (0, 0)) :: HX) := by
  refine fn_enter (args := [_, _, _]) Try.func47 rfl Try.ntmps47 rfl hH ?_
  refine pn_seq ?_
  refine pn_plain [] rfl ?_
  refine TE_q rfl rfl (RD.assign rfl) rfl ?_
  refine TE_nil0 ?_
  refine pn_seq ?_
  refine pn_plain [] rfl ?_
  refine TE_q rfl rfl (RD.assign rfl) rfl ?_
  refine TE_nil0 ?_
  refine pn_seq ?_
  refine pn_seq ?_
  refine pn_plain [] rfl ?_
  refine TE_q rfl rfl (RD.move rfl) rfl ?_
  refine TE_q rfl rfl (RD.nilCheckP rfl) rfl ?_
  refine TE_q rfl rfl (RD.fieldAddr (o := 1) Try.runUnderlying77 rfl rfl Try.sizeOf4 rfl) rfl ?_
  refine TE_l rfl rfl trivial rfl (RD.load (i := 0) Try.isAgg4 rfl rfl rfl) rfl ?_
  refine TE_nil0 ?_
  refine pn_cond rfl (fun hc1 => ?_) (fun hc1 => ?_)
  · refine pn_seq ?_
    refine pn_plain [] rfl ?_
    refine TE_q rfl rfl (RD.move rfl) rfl ?_
    refine TE_q rfl rfl (RD.assign rfl) rfl ?_
    refine TE_nil0 ?_
    refine pn_ret ?_
    have hg2 : (getM 0 (numD n) (stO ys wr)) = (0, stO ys wr) := (by rw [hc1]; rfl)
    exact pn_doneS ((rd, .cells #[.pointer (some ⟨s2, 0, none⟩), .bool wr] 77 (0, 0)) :: (s2, .cells #[sv] 88 (0, 0)) :: HX) rfl rfl ⟨wr, ys, sv, hby, (Nat.le_refl _), (by rw [hg2]), (by rw [hg2]; rfl), rfl⟩ (fun a => by simp -failIfUnchanged <;> omega) (ownC (.inr (by simp [keys])) (ownC (.inr (by simp [keys])) own_k2))
  · refine pn_skip ?_
    refine pn_seq ?_
    refine pn_plain [] rfl ?_
    refine TE_q rfl rfl (RD.move rfl) rfl ?_
    refine TE_q rfl rfl (RD.move rfl) rfl ?_
    refine TE_callM _ ((s2, .cells #[sv] 88 (0, 0)) :: HX) [(rd, .cells #[.pointer (some ⟨s2, 0, none⟩), .bool wr] 77 (0, 0))] ((s2, .cells #[sv] 88 (0, 0)) :: HX) rfl rfl trivial Try.call46 rfl rfl rfl (ownC (.inr (by simp [keys])) own_k2) (fun a => by simp -failIfUnchanged <;> omega) (fun w hw => c_gNum HX s2 sv ys n w (hby.mono (fun _ hw => hw.sp (fun a => by simp -failIfUnchanged <;> omega))) hly (by omega) (hw.sp (fun a => by simp -failIfUnchanged <;> omega))) (fun a => by simp -failIfUnchanged <;> omega) ?_
    rintro v15 H16 (⟨x12, r4, sv5, hd7, hr8, hrl9, rfl, rfl⟩ | ⟨e13, sv5, r4, hd7, hne14, hr8, hrl9, rfl, rfl⟩) hX17
    · refine TE_sp ((s2, .cells #[sv5] 88 (0, 0)) :: (rd, .cells #[.pointer (some ⟨s2, 0, none⟩), .bool wr] 77 (0, 0)) :: HX) (fun a => by simp -failIfUnchanged <;> omega) ?_
      refine TE_q rfl rfl (RD.move rfl) rfl ?_
      refine TE_q rfl rfl (RD.extract rfl rfl) rfl ?_
      refine TE_q rfl rfl (RD.extract rfl rfl) rfl ?_
      refine TE_q rfl rfl (RD.assign rfl) rfl ?_
      refine TE_q rfl rfl (RD.assign rfl) rfl ?_
      refine TE_nil0 ?_
      refine pn_seq ?_
      refine pn_seq ?_
      refine pn_plain [] rfl ?_
      refine TE_q rfl rfl (RD.move rfl) rfl ?_
      refine TE_q rfl rfl (RD.move rfl) rfl ?_
      refine TE_q rfl rfl (RD.as (v := .bool false) (RD.neq rfl rfl) rfl) rfl ?_
      refine TE_q rfl rfl (RD.nilCheckP rfl) rfl ?_
      refine TE_q rfl rfl (RD.fieldAddr (o := 1) Try.runUnderlying77 rfl rfl Try.sizeOf4 rfl) rfl ?_
      refine TE_storeC 1 #[.pointer (some ⟨s2, 0, none⟩), .bool wr] #[.pointer (some ⟨s2, 0, none⟩), .bool false] ((s2, .cells #[sv5] 88 (0, 0)) :: (rd, .cells #[.pointer (some ⟨s2, 0, none⟩), .bool false] 77 (0, 0)) :: HX) rfl Try.sizeOf4 trivial rfl rfl rfl rfl rfl rfl rfl rfl (.inr (by simp [keys])) ?_
      refine TE_nil0 ?_
      refine pn_seq ?_
      refine pn_plain [] rfl ?_
      refine TE_q rfl rfl (RD.move rfl) rfl ?_
      refine TE_q rfl rfl (RD.nilCheckP rfl) rfl ?_
      refine TE_q rfl rfl (RD.fieldAddr (o := 1) Try.runUnderlying77 rfl rfl Try.sizeOf4 rfl) rfl ?_
      refine TE_l rfl rfl trivial rfl (RD.load (i := 1) Try.isAgg4 rfl rfl rfl) rfl ?_
      refine TE_nil0 ?_
      refine pn_condF rfl ?_
      refine pn_skip ?_
      refine pn_seq ?_
      refine pn_plain [] rfl ?_
      refine TE_q rfl rfl (RD.move rfl) rfl ?_
      refine TE_q rfl rfl (RD.assign rfl) rfl ?_
      refine TE_nil0 ?_
      refine pn_ret ?_
      have hg18 : (getM 0 (numD n) (stO ys wr)) = (x12, stO r4 false) := (by rw [hc1]; exact getM_ok hd7)
      exact pn_doneS ((rd, .cells #[.pointer (some ⟨s2, 0, none⟩), .bool false] 77 (0, 0)) :: (s2, .cells #[sv5] 88 (0, 0)) :: HX) rfl rfl ⟨false, r4, sv5, hr8, hrl9, (by rw [hg18]), (by rw [hg18]; rfl), rfl⟩ (fun a => by simp -failIfUnchanged <;> omega) (ownC (.inr (by simp [keys])) (ownC (.inr (by simp [keys])) (fun e he => hX17 e (List.mem_cons_of_mem _ he))))
    · refine TE_sp ((s2, .cells #[sv5] 88 (0, 0)) :: (rd, .cells #[.pointer (some ⟨s2, 0, none⟩), .bool wr] 77 (0, 0)) :: HX) (fun a => by simp -failIfUnchanged <;> omega) ?_
      refine TE_q rfl rfl (RD.move rfl) rfl ?_
      refine TE_q rfl rfl (RD.extract rfl rfl) rfl ?_
      refine TE_q rfl rfl (RD.extract rfl rfl) rfl ?_
      refine TE_q rfl rfl (RD.assign rfl) rfl ?_
      refine TE_q rfl rfl (RD.assign rfl) rfl ?_
      refine TE_nil0 ?_
      refine pn_seq ?_
      refine pn_seq ?_
      refine pn_plain [] rfl ?_
      refine TE_q rfl rfl (RD.move rfl) rfl ?_
      refine TE_q rfl rfl (RD.move rfl) rfl ?_
      refine TE_q rfl rfl (RD.as (v := .bool true) (RD.neq rfl rfl) (congrArg Value.bool (by simp [hne14]))) rfl ?_
      refine TE_q rfl rfl (RD.nilCheckP rfl) rfl ?_
      refine TE_q rfl rfl (RD.fieldAddr (o := 1) Try.runUnderlying77 rfl rfl Try.sizeOf4 rfl) rfl ?_
      refine TE_storeC 1 #[.pointer (some ⟨s2, 0, none⟩), .bool wr] #[.pointer (some ⟨s2, 0, none⟩), .bool true] ((s2, .cells #[sv5] 88 (0, 0)) :: (rd, .cells #[.pointer (some ⟨s2, 0, none⟩), .bool true] 77 (0, 0)) :: HX) rfl Try.sizeOf4 trivial rfl rfl rfl rfl rfl rfl rfl rfl (.inr (by simp [keys])) ?_
      refine TE_nil0 ?_
      refine pn_seq ?_
      refine pn_plain [] rfl ?_
      refine TE_q rfl rfl (RD.move rfl) rfl ?_
      refine TE_q rfl rfl (RD.nilCheckP rfl) rfl ?_
      refine TE_q rfl rfl (RD.fieldAddr (o := 1) Try.runUnderlying77 rfl rfl Try.sizeOf4 rfl) rfl ?_
      refine TE_l rfl rfl trivial rfl (RD.load (i := 1) Try.isAgg4 rfl rfl rfl) rfl ?_
      refine TE_nil0 ?_
      refine pn_condT rfl ?_
      refine pn_seq ?_
      refine pn_plain [] rfl ?_
      refine TE_q rfl rfl (RD.move rfl) rfl ?_
      refine TE_q rfl rfl (RD.assign rfl) rfl ?_
      refine TE_nil0 ?_
      refine pn_ret ?_
      have hg19 : (getM 0 (numD n) (stO ys wr)) = (0, stO r4 true) := (by rw [hc1]; exact getM_err hd7)
      exact pn_doneS ((rd, .cells #[.pointer (some ⟨s2, 0, none⟩), .bool true] 77 (0, 0)) :: (s2, .cells #[sv5] 88 (0, 0)) :: HX) rfl rfl ⟨true, r4, sv5, hr8, hrl9, (by rw [hg19]), (by rw [hg19]; rfl), rfl⟩ (fun a => by simp -failIfUnchanged <;> omega) (ownC (.inr (by simp [keys])) (ownC (.inr (by simp [keys])) (fun e he => hX17 e (List.mem_cons_of_mem _ he))))

def oneZ (l : List UInt8) : Int := if l.length = 0 then 0 else ((gt l 0).toNat : Int)
def oneM (o : Option (List UInt8)) : Int × Option (List UInt8) := (oneZ (getM [] (rawD 1) o).1, (getM [] (rawD 1) o).2)
theorem oneZ_0 {l : List UInt8} (h : (l.length : Int) = 0) : (0 : Int) = oneZ l := by rw [oneZ, if_pos (by omega)]
theorem oneZ_1 {l : List UInt8} (h : ¬ (l.length : Int) = 0) : ((gt l 0).toNat : Int) = oneZ l := by rw [oneZ, if_neg (by omega)]
theorem getRaw_len {n : Nat} {o : Option (List UInt8)} : (getM [] (rawD n) o).1.length ≤ n := by
  cases o with
  | none => simp [getM]
  | some ys =>
    simp only [getM, rawD]
    split
    · rename_i h; split at h
      · cases h
      · cases h; simp; omega
    · simp

theorem c_rdOne (rd : Nat) (s2 : Nat) (sv : Value) (ys : List UInt8) (wr : Bool) (HX : Mem) (w : World) (hby : Rdb HX sv ys) (hly : ys.length ≤ 1000000) (hH : Hp ((rd, .cells #[.pointer (some ⟨s2, 0, none⟩), .bool wr] 77 (0, 0)) :: (s2, .cells #[sv] 88 (0, 0)) :: HX) w) : Calls Try.prog 33 #[.pointer (some ⟨rd, 0, none⟩)] w (Ret w (keys ((rd, .cells #[.pointer (some ⟨s2, 0, none⟩), .bool wr] 77 (0, 0)) :: (s2, .cells #[sv] 88 (0, 0)) :: HX)) fun v H1 => ∃ wr' ys' sv', Rdb HX sv' ys' ∧ ys'.length ≤ ys.length ∧ (oneM (stO ys wr)).2 = stO ys' wr' ∧ v = .int .i64 (oneM (stO ys wr)).1 ∧ H1 = (rd, .cells #[.pointer (some ⟨s2, 0, none⟩), .bool wr'] 77 (0, 0)) :: (s2, .cells #[sv'] 88 (0, 0)) :: HX) := by
  refine fn_enter (args := [_]) Try.func33 rfl Try.ntmps33 rfl hH ?_
  refine pn_seq ?_
  refine pn_plain [] rfl ?_
  refine TE_q rfl rfl (RD.assign rfl) rfl ?_
  refine TE_nil0 ?_
  refine pn_seq ?_
  refine pn_plain [] rfl ?_
  refine TE_q rfl rfl (RD.move rfl) rfl ?_
  refine TE_q rfl rfl (RD.nilCheckP rfl) rfl ?_
  refine TE_q rfl rfl (RD.fieldAddr (o := 0) Try.runUnderlying77 rfl rfl Try.sizeOf74 rfl) rfl ?_
  refine TE_l rfl rfl trivial rfl (RD.load (i := 0) Try.isAgg74 rfl rfl rfl) rfl ?_
  refine TE_q rfl rfl (RD.makeFunc rfl rfl) rfl ?_
  refine TE_q rfl rfl (RD.assign rfl) rfl ?_
  refine TE_nil0 ?_
  refine pn_seq ?_
  refine pn_plain [] rfl ?_
  refine TE_q rfl rfl (RD.move rfl) rfl ?_
  refine TE_q rfl rfl (RD.move rfl) rfl ?_
  refine TE_callM _ ((rd, .cells #[.pointer (some ⟨s2, 0, none⟩), .bool wr] 77 (0, 0)) :: (s2, .cells #[sv] 88 (0, 0)) :: HX) [] ((rd, .cells #[.pointer (some ⟨s2, 0, none⟩), .bool wr] 77 (0, 0)) :: (s2, .cells #[sv] 88 (0, 0)) :: HX) rfl rfl trivial Try.call35 rfl rfl rfl (ownC (.inr (by simp [keys])) (ownC (.inr (by simp [keys])) own_k2)) (fun a => by simp -failIfUnchanged <;> omega) (fun w hw => c_getRaw rd s2 sv ys wr 1 HX w (hby.mono (fun _ hw => hw.sp (fun a => by simp -failIfUnchanged <;> omega))) hly (by first | assumption | omega | (simp; done) | (simp; omega)) (hw.sp (fun a => by simp -failIfUnchanged <;> omega))) (fun a => by simp -failIfUnchanged <;> omega) ?_
  rintro v11 H12 ⟨wr5, ys6, sv7, st2, hr8, hrl9, hg10, hbo3, rfl, rfl⟩ hX4
  have hRD1 : Rdx 1 (byteC) (bldMx 5 (byteC) (getM [] (rawD 1) (stO ys wr)).1 st2) (bldVx (getM [] (rawD 1) (stO ys wr)).1 st2) (getM [] (rawD 1) (stO ys wr)).1 := hbo3.rdx (u := 5) byteC_len
  refine TE_sp ((rd, .cells #[.pointer (some ⟨s2, 0, none⟩), .bool wr5] 77 (0, 0)) :: (s2, .cells #[sv7] 88 (0, 0)) :: ((bldMx 5 (byteC) (getM [] (rawD 1) (stO ys wr)).1 st2) ++ HX)) (fun a => by simp -failIfUnchanged <;> omega) ?_
  refine TE_q rfl rfl (RD.assign rfl) rfl ?_
  refine TE_nil0 ?_
  refine pn_seq ?_
  refine pn_seq ?_
  refine pn_plain [1] rfl ?_
  refine TE_q rfl rfl (RD.move rfl) rfl ?_
  refine TE_q rfl rfl (RD.lenX Try.runUnderlying22 rfl hRD1) rfl ?_
  refine TE_q rfl rfl (RD.eql rfl rfl) rfl ?_
  refine TE_nil0 ?_
  refine pn_condD rfl (fun hc13 => ?_) (fun hc13 => ?_)
  · refine pn_seq ?_
    refine pn_plainG [] ((rd, .cells #[.pointer (some ⟨s2, 0, none⟩), .bool wr5] 77 (0, 0)) :: (s2, .cells #[sv7] 88 (0, 0)) :: HX) rfl (fun a => by simp -failIfUnchanged <;> omega) ?_
    refine TE_q rfl rfl (RD.assign rfl) rfl ?_
    refine TE_nil0 ?_
    refine pn_ret ?_
    exact pn_doneS ((rd, .cells #[.pointer (some ⟨s2, 0, none⟩), .bool wr5] 77 (0, 0)) :: (s2, .cells #[sv7] 88 (0, 0)) :: HX) rfl rfl ⟨wr5, ys6, sv7, hr8, hrl9, hg10, (congrArg (Value.int .i64) (oneZ_0 hc13)), rfl⟩ (fun a => by simp -failIfUnchanged <;> omega) (ownC (.inr (by simp [keys])) (ownC (.inr (by simp [keys])) (fun e he => hX4 e (List.mem_cons_of_mem _ (List.mem_cons_of_mem _ (List.mem_append_right _ he))))))
  · refine pn_skip ?_
    refine pn_seq ?_
    refine pn_plain [3] rfl ?_
    refine TE_q rfl rfl (RD.move rfl) rfl ?_
    refine TE_q rfl rfl (RD.idxR (i := 0) (o := (0 * 1 + 0)) Try.runUnderlying22 Try.sizeOf5 rfl hRD1 rfl rfl (by omega) (by rfl)) rfl ?_
    refine TE_l rfl rfl trivial rfl (RD.ldR (i := 0) (j := 0) (u := .int .u8 ((gt ((getM [] (rawD 1) (stO ys wr)).1) 0).toNat : Int)) Try.isAgg5 rfl hRD1 (gt_some (by omega)) (by rfl) rfl (fun _ hw => hw.sp (fun a => by simp -failIfUnchanged <;> omega))) rfl ?_
    refine TE_q rfl rfl (RD.convI Try.runUnderlying5 Try.runUnderlying3 rfl (by omega) (by have h9 := UInt8.toNat_lt (gt (getM [] (rawD 1) (stO ys wr)).1 0); omega)) rfl ?_
    refine TE_q rfl rfl (RD.assign rfl) rfl ?_
    refine TE_nil0 ?_
    refine pn_ret ?_
    exact pn_doneS ((rd, .cells #[.pointer (some ⟨s2, 0, none⟩), .bool wr5] 77 (0, 0)) :: (s2, .cells #[sv7] 88 (0, 0)) :: HX) rfl rfl ⟨wr5, ys6, sv7, hr8, hrl9, hg10, (congrArg (Value.int .i64) (oneZ_1 hc13)), rfl⟩ (fun a => by simp -failIfUnchanged <;> omega) (ownC (.inr (by simp [keys])) (ownC (.inr (by simp [keys])) (fun e he => hX4 e (List.mem_cons_of_mem _ (List.mem_cons_of_mem _ (List.mem_append_right _ he))))))

theorem put_tip (l : List UInt8) (h : l.length ≤ 32) : putL (idV fun _ => 0).cells 0 (cat byteC l) = (idV (tipOf l)).cells := by
  have hlen : (cat byteC l).length = l.length := by rw [cat_len byteC_len, Nat.mul_one]
  apply Array.ext'
  apply List.ext_getElem?
  intro i
  have hg := get_putL (cat byteC l) (idV fun _ => 0).cells 0 i (by rw [hlen]; show 0 + l.length ≤ 32; omega)
  rw [← Array.getElem?_toList] at hg
  rw [hg, hlen]
  by_cases hi : i < 32
  · have h2 := id_at (tipOf l) hi
    rw [← Array.getElem?_toList] at h2
    rw [h2]
    split
    · rename_i h1
      have hj : i < l.length := by omega
      rw [show i - 0 = i * 1 + 0 by omega, cat_get byteC_len l i 0 (l.getD i 0) (by rw [List.getD_eq_getElem?_getD, List.getElem?_eq_getElem hj]; rfl) (by omega)]
      simp [byteC, bcell, tipOf]
    · rename_i h1
      have h3 := id_at (fun _ => 0) hi
      have h0 : tipOf l i = 0 := by
        have : l.getD i 0 = 0 := by rw [List.getD_eq_getElem?_getD, List.getElem?_eq_none (by omega)]; rfl
        rw [tipOf, this]; rfl
      rw [h0]
      first | exact h3 | (rw [← Array.getElem?_toList] at h3; exact h3)
  · have e1 : (idV (tipOf l)).cells.toList.length = 32 := rfl
    have e2 : (idV fun _ => 0).cells.size = 32 := rfl
    rw [List.getElem?_eq_none (l := (idV (tipOf l)).cells.toList) (by omega)]
    split
    · omega
    · first | exact Array.getElem?_eq_none (by omega) | (rw [Array.getElem?_toList]; exact Array.getElem?_eq_none (by omega)) | exact List.getElem?_eq_none (by rw [Array.length_toList]; omega)
def idM (o : Option (List UInt8)) : (Nat → Int) × Option (List UInt8) := (tipOf (getM [] (rawD 32) o).1, (getM [] (rawD 32) o).2)

theorem c_rdId (rd : Nat) (s2 : Nat) (sv : Value) (ys : List UInt8) (wr : Bool) (HX : Mem) (w : World) (hby : Rdb HX sv ys) (hly : ys.length ≤ 1000000) (hH : Hp ((rd, .cells #[.pointer (some ⟨s2, 0, none⟩), .bool wr] 77 (0, 0)) :: (s2, .cells #[sv] 88 (0, 0)) :: HX) w) : Calls Try.prog 39 #[.pointer (some ⟨rd, 0, none⟩)] w (Ret w (keys ((rd, .cells #[.pointer (some ⟨s2, 0, none⟩), .bool wr] 77 (0, 0)) :: (s2, .cells #[sv] 88 (0, 0)) :: HX)) fun v H1 => ∃ wr' ys' sv', Rdb HX sv' ys' ∧ ys'.length ≤ ys.length ∧ (idM (stO ys wr)).2 = stO ys' wr' ∧ v = idV (idM (stO ys wr)).1 ∧ H1 = (rd, .cells #[.pointer (some ⟨s2, 0, none⟩), .bool wr'] 77 (0, 0)) :: (s2, .cells #[sv'] 88 (0, 0)) :: HX) := by
  refine fn_enter (args := [_]) Try.func39 rfl Try.ntmps39 rfl hH ?_
  refine pn_seq ?_
  refine pn_plain [] rfl ?_
  refine TE_allocC (idV (fun _ => 0)).cells rfl Try.zeroValue25 rfl trivial rfl fun b2 hb2 => ?_
  refine TE_nil0 ?_
  refine pn_seq ?_
  refine pn_drawG [] ((b2, .cells (idV (fun _ => 0)).cells 25 (0, 0)) :: (rd, .cells #[.pointer (some ⟨s2, 0, none⟩), .bool wr] 77 (0, 0)) :: (s2, .cells #[sv] 88 (0, 0)) :: HX) [] rfl rfl (by kernel_rfl) (fun a => by simp -failIfUnchanged <;> omega) ?_
  refine TE_q rfl rfl (RD.sliceA Try.runUnderlying25 Try.sizeOf5 rfl rfl (Nat.le_refl _)) rfl ?_
  refine TE_q rfl rfl (RD.move rfl) rfl ?_
  refine TE_q rfl rfl (RD.move rfl) rfl ?_
  refine TE_q rfl rfl (RD.nilCheckP rfl) rfl ?_
  refine TE_q rfl rfl (RD.fieldAddr (o := 0) Try.runUnderlying77 rfl rfl Try.sizeOf74 rfl) rfl ?_
  refine TE_l rfl rfl trivial rfl (RD.load (i := 1) Try.isAgg74 rfl rfl rfl) rfl ?_
  refine TE_q rfl rfl (RD.makeFunc rfl rfl) rfl ?_
  refine TE_callM _ ((rd, .cells #[.pointer (some ⟨s2, 0, none⟩), .bool wr] 77 (0, 0)) :: (s2, .cells #[sv] 88 (0, 0)) :: HX) [(b2, .cells (idV (fun _ => 0)).cells 25 (0, 0))] ((rd, .cells #[.pointer (some ⟨s2, 0, none⟩), .bool wr] 77 (0, 0)) :: (s2, .cells #[sv] 88 (0, 0)) :: HX) rfl rfl trivial Try.call35 rfl rfl rfl (ownC (.inr (by simp [keys])) (ownC (.inr (by simp [keys])) own_k2)) (fun a => by simp -failIfUnchanged <;> omega) (fun w hw => c_getRaw rd s2 sv ys wr 32 HX w (hby.mono (fun _ hw => hw.sp (fun a => by simp -failIfUnchanged <;> omega))) hly (by first | assumption | omega | (simp; done) | (simp; omega)) (hw.sp (fun a => by simp -failIfUnchanged <;> omega))) (fun a => by simp -failIfUnchanged <;> omega) ?_
  rintro v11 H12 ⟨wr5, ys6, sv7, st2, hr8, hrl9, hg10, hbo3, rfl, rfl⟩ hX4
  have hRD1 : Rdx 1 (byteC) (bldMx 5 (byteC) (getM [] (rawD 32) (stO ys wr)).1 st2) (bldVx (getM [] (rawD 32) (stO ys wr)).1 st2) (getM [] (rawD 32) (stO ys wr)).1 := hbo3.rdx (u := 5) byteC_len
  refine TE_sp ((rd, .cells #[.pointer (some ⟨s2, 0, none⟩), .bool wr5] 77 (0, 0)) :: (s2, .cells #[sv7] 88 (0, 0)) :: (b2, .cells (idV (fun _ => 0)).cells 25 (0, 0)) :: ((bldMx 5 (byteC) (getM [] (rawD 32) (stO ys wr)).1 st2) ++ HX)) (fun a => by simp -failIfUnchanged <;> omega) ?_
  refine TE_copyR 2 ((getM [] (rawD 32) (stO ys wr)).1) (idV (fun _ => 0)).cells (idV (tipOf ((getM [] (rawD 32) (stO ys wr)).1))).cells ((rd, .cells #[.pointer (some ⟨s2, 0, none⟩), .bool wr5] 77 (0, 0)) :: (s2, .cells #[sv7] 88 (0, 0)) :: (b2, .cells (idV (tipOf ((getM [] (rawD 32) (stO ys wr)).1))).cells 25 (0, 0)) :: ((bldMx 5 (byteC) (getM [] (rawD 32) (stO ys wr)).1 st2) ++ HX)) rfl rfl trivial rfl Try.underlying22 Try.sizeOf5 elByteR byteC_len byteC_one rfl rfl hRD1 (fun _ hw => hw.sp (fun a => by simp -failIfUnchanged <;> omega)) getRaw_len rfl (by show 0 + _ ≤ 32; have h9 := getRaw_len (n := 32) (o := stO ys wr); omega) (.inl hb2) (put_tip _ getRaw_len) rfl ?_
  refine TE_nil ?_
  refine pn_seq ?_
  refine pn_plainG [] ((rd, .cells #[.pointer (some ⟨s2, 0, none⟩), .bool wr5] 77 (0, 0)) :: (s2, .cells #[sv7] 88 (0, 0)) :: (b2, .cells (idV (tipOf ((getM [] (rawD 32) (stO ys wr)).1))).cells 25 (0, 0)) :: HX) rfl (fun a => by simp -failIfUnchanged <;> omega) ?_
  refine TE_l rfl rfl trivial rfl (RD.loadA (i := 2) Try.isAgg25 Try.sizeOf25 rfl rfl (Nat.le_of_ble_eq_true rfl) (id_all _)) rfl ?_
  refine TE_putCW 2 (idV (tipOf ((getM [] (rawD 32) (stO ys wr)).1))).cells (idV (tipOf ((getM [] (rawD 32) (stO ys wr)).1))).cells ((rd, .cells #[.pointer (some ⟨s2, 0, none⟩), .bool wr5] 77 (0, 0)) :: (s2, .cells #[sv7] 88 (0, 0)) :: (b2, .cells (idV (tipOf ((getM [] (rawD 32) (stO ys wr)).1))).cells 25 (0, 0)) :: HX) rfl Try.sizeOf25 trivial rfl rfl rfl rfl rfl rfl rfl rfl (.inl hb2) ?_
  refine TE_nil0 ?_
  refine pn_ret ?_
  exact pn_doneF rfl ⟨idV (tipOf ((getM [] (rawD 32) (stO ys wr)).1)), _, b2, 0, rfl, rfl, load_agg (i := 2) Try.isAgg25 Try.sizeOf25 rfl (Nat.le_of_ble_eq_true rfl) (id_all _), rfl⟩ ⟨wr5, ys6, sv7, hr8, hrl9, hg10, rfl, rfl⟩ (fun _ h => h.sp (fun a => by simp -failIfUnchanged <;> omega)) (fun e he => Or.symm ((ownC (.inr (by simp [keys])) (ownC (.inr (by simp [keys])) (fun e he => hX4 e (List.mem_cons_of_mem _ (List.mem_cons_of_mem _ (List.mem_append_right _ he)))))) e he))

def textM (o : Option (List UInt8)) : ByteArray × Option (List UInt8) := (⟨(getM [] (bytesD 4000) o).1.toArray⟩, (getM [] (bytesD 4000) o).2)

theorem c_text (bc : Nat) (rd : Nat) (s2 : Nat) (sv : Value) (ys : List UInt8) (wr : Bool) (HX : Mem) (w : World) (hby : Rdb HX sv ys) (hly : ys.length ≤ 1000000) (hH : Hp ((bc, .cells #[.pointer (some ⟨rd, 0, none⟩)] 73 (0, 0)) :: (rd, .cells #[.pointer (some ⟨s2, 0, none⟩), .bool wr] 77 (0, 0)) :: (s2, .cells #[sv] 88 (0, 0)) :: HX) w) : Calls Try.prog 34 #[.pointer (some ⟨bc, 0, none⟩)] w (Ret w (keys ((rd, .cells #[.pointer (some ⟨s2, 0, none⟩), .bool wr] 77 (0, 0)) :: (s2, .cells #[sv] 88 (0, 0)) :: HX)) fun v H1 => ∃ wr' ys' sv', Rdb HX sv' ys' ∧ ys'.length ≤ ys.length ∧ (textM (stO ys wr)).2 = stO ys' wr' ∧ v = .string (textM (stO ys wr)).1 ∧ H1 = (rd, .cells #[.pointer (some ⟨s2, 0, none⟩), .bool wr'] 77 (0, 0)) :: (s2, .cells #[sv'] 88 (0, 0)) :: HX) := by
  refine fn_enter (args := [_]) Try.func34 rfl Try.ntmps34 rfl hH ?_
  refine pn_seq ?_
  refine pn_plain [] rfl ?_
  refine TE_q rfl rfl (RD.assign rfl) rfl ?_
  refine TE_nil0 ?_
  refine pn_seq ?_
  refine pn_drawG [0, 1] ((rd, .cells #[.pointer (some ⟨s2, 0, none⟩), .bool wr] 77 (0, 0)) :: (s2, .cells #[sv] 88 (0, 0)) :: HX) [(bc, .cells #[.pointer (some ⟨rd, 0, none⟩)] 73 (0, 0))] rfl rfl (by kernel_rfl) (fun a => by simp -failIfUnchanged <;> omega) ?_
  refine TE_q rfl rfl (RD.load (i := 0) Try.isAgg73 rfl rfl rfl) rfl ?_
  refine TE_q rfl rfl (RD.load (i := 0) Try.isAgg73 rfl rfl rfl) rfl ?_
  refine TE_q rfl rfl (RD.nilCheckP rfl) rfl ?_
  refine TE_q rfl rfl (RD.fieldAddr (o := 0) Try.runUnderlying77 rfl rfl Try.sizeOf74 rfl) rfl ?_
  refine TE_l rfl rfl trivial rfl (RD.load (i := 0) Try.isAgg74 rfl rfl rfl) rfl ?_
  refine TE_q rfl rfl (RD.makeFunc rfl rfl) rfl ?_
  refine TE_callM _ ((rd, .cells #[.pointer (some ⟨s2, 0, none⟩), .bool wr] 77 (0, 0)) :: (s2, .cells #[sv] 88 (0, 0)) :: HX) [] ((rd, .cells #[.pointer (some ⟨s2, 0, none⟩), .bool wr] 77 (0, 0)) :: (s2, .cells #[sv] 88 (0, 0)) :: HX) rfl rfl trivial Try.call35 rfl rfl rfl (ownC (.inr (by simp [keys])) (ownC (.inr (by simp [keys])) own_k2)) (fun a => by simp -failIfUnchanged <;> omega) (fun w hw => c_getBytes rd s2 sv ys wr 4000 HX w (hby.mono (fun _ hw => hw.sp (fun a => by simp -failIfUnchanged <;> omega))) hly (by first | assumption | omega | (simp; done) | (simp; omega)) (hw.sp (fun a => by simp -failIfUnchanged <;> omega))) (fun a => by simp -failIfUnchanged <;> omega) ?_
  rintro v11 H12 ⟨wr5, ys6, sv7, st2, hr8, hrl9, hg10, hbo3, rfl, rfl⟩ hX4
  have hRD1 : Rdx 1 (byteC) (bldMx 5 (byteC) (getM [] (bytesD 4000) (stO ys wr)).1 st2) (bldVx (getM [] (bytesD 4000) (stO ys wr)).1 st2) (getM [] (bytesD 4000) (stO ys wr)).1 := hbo3.rdx (u := 5) byteC_len
  refine TE_sp ((rd, .cells #[.pointer (some ⟨s2, 0, none⟩), .bool wr5] 77 (0, 0)) :: (s2, .cells #[sv7] 88 (0, 0)) :: ((bldMx 5 (byteC) (getM [] (bytesD 4000) (stO ys wr)).1 st2) ++ HX)) (fun a => by simp -failIfUnchanged <;> omega) ?_
  refine TE_l rfl rfl trivial rfl (RD.str_of_bytes Try.underlying22 Try.underlying9 Try.underlying5 rfl (BytesIn.mono ((Rdb.of_x hRD1)).bytes (fun _ hw => hw.sp (fun a => by simp -failIfUnchanged <;> omega)))) rfl ?_
  refine TE_q rfl rfl (RD.assign rfl) rfl ?_
  refine TE_nil ?_
  refine pn_ret ?_
  exact pn_doneS ((rd, .cells #[.pointer (some ⟨s2, 0, none⟩), .bool wr5] 77 (0, 0)) :: (s2, .cells #[sv7] 88 (0, 0)) :: HX) rfl rfl ⟨wr5, ys6, sv7, hr8, hrl9, hg10, rfl, rfl⟩ (fun a => by simp -failIfUnchanged <;> omega) (ownC (.inr (by simp [keys])) (ownC (.inr (by simp [keys])) (fun e he => hX4 e (List.mem_cons_of_mem _ (List.mem_cons_of_mem _ (List.mem_append_right _ he))))))

end Go.Proofs.Ytloljpefdecmhaa

namespace Go.Proofs.Ytloljpefdecmhaa
open Go Go.Mv
set_option maxRecDepth 8000
def entM (o : Option (List UInt8)) : Ent × Option (List UInt8) := (⟨(textM o).1, (oneM (textM o).2).1, (idM (oneM (textM o).2).2).1⟩, (idM (oneM (textM o).2).2).2)

theorem c_entry (bt : Nat) (bc : Nat) (rd : Nat) (s2 : Nat) (sv : Value) (ys : List UInt8) (wr : Bool) (HX : Mem) (w : World) (hby : Rdb HX sv ys) (hly : ys.length ≤ 1000000) (hH : Hp ((bt, .cells #[.func (.func 34) #[] #[.pointer (some ⟨bc, 0, none⟩)]] 81 (0, 0)) :: (bc, .cells #[.pointer (some ⟨rd, 0, none⟩)] 73 (0, 0)) :: (rd, .cells #[.pointer (some ⟨s2, 0, none⟩), .bool wr] 77 (0, 0)) :: (s2, .cells #[sv] 88 (0, 0)) :: HX) w) : Calls Try.prog 38 #[.pointer (some ⟨bt, 0, none⟩), .pointer (some ⟨bc, 0, none⟩)] w (Ret w (keys ((rd, .cells #[.pointer (some ⟨s2, 0, none⟩), .bool wr] 77 (0, 0)) :: (s2, .cells #[sv] 88 (0, 0)) :: HX)) fun v H1 => ∃ wr' ys' sv', Rdb HX sv' ys' ∧ ys'.length ≤ ys.length ∧ (entM (stO ys wr)).2 = stO ys' wr' ∧ v = entV (entM (stO ys wr)).1 ∧ H1 = (rd, .cells #[.pointer (some ⟨s2, 0, none⟩), .bool wr'] 77 (0, 0)) :: (s2, .cells #[sv'] 88 (0, 0)) :: HX) := by
  refine fn_enter (args := [_, _]) Try.func38 rfl Try.ntmps38 rfl hH ?_
  refine pn_seq ?_
  refine pn_plain [] rfl ?_
  refine TE_allocC (entV (⟨⟨#[]⟩, 0, (fun _ => 0)⟩ : Ent)).cells rfl Try.zeroValue38 rfl trivial rfl fun b2 hb2 => ?_
  refine TE_nil0 ?_
  refine pn_seq ?_
  refine pn_plain [] rfl ?_
  refine TE_l rfl rfl trivial rfl (RD.load (i := 1) Try.isAgg81 rfl rfl rfl) rfl ?_
  refine TE_callM _ ((rd, .cells #[.pointer (some ⟨s2, 0, none⟩), .bool wr] 77 (0, 0)) :: (s2, .cells #[sv] 88 (0, 0)) :: HX) [(b2, .cells (entV (⟨⟨#[]⟩, 0, (fun _ => 0)⟩ : Ent)).cells 38 (0, 0)), (bt, .cells #[.func (.func 34) #[] #[.pointer (some ⟨bc, 0, none⟩)]] 81 (0, 0)), (bc, .cells #[.pointer (some ⟨rd, 0, none⟩)] 73 (0, 0))] ((bc, .cells #[.pointer (some ⟨rd, 0, none⟩)] 73 (0, 0)) :: (rd, .cells #[.pointer (some ⟨s2, 0, none⟩), .bool wr] 77 (0, 0)) :: (s2, .cells #[sv] 88 (0, 0)) :: HX) rfl rfl trivial Try.call34 rfl rfl rfl (ownC (.inr (by simp [keys])) (ownC (.inr (by simp [keys])) own_k2)) (fun a => by simp -failIfUnchanged <;> omega) (fun w hw => c_text bc rd s2 sv ys wr HX w (hby.mono (fun _ hw => hw.sp (fun a => by simp -failIfUnchanged <;> omega))) hly (hw.sp (fun a => by simp -failIfUnchanged <;> omega))) (fun a => by simp -failIfUnchanged <;> omega) ?_
  rintro v8 H9 ⟨wr2, ys3, sv4, hr5, hrl6, hg7, rfl, rfl⟩ hX1
  refine TE_sp ((rd, .cells #[.pointer (some ⟨s2, 0, none⟩), .bool wr2] 77 (0, 0)) :: (s2, .cells #[sv4] 88 (0, 0)) :: (b2, .cells (entV (⟨⟨#[]⟩, 0, (fun _ => 0)⟩ : Ent)).cells 38 (0, 0)) :: (bt, .cells #[.func (.func 34) #[] #[.pointer (some ⟨bc, 0, none⟩)]] 81 (0, 0)) :: (bc, .cells #[.pointer (some ⟨rd, 0, none⟩)] 73 (0, 0)) :: HX) (fun a => by simp -failIfUnchanged <;> omega) ?_
  refine TE_q rfl rfl (RD.assign rfl) rfl ?_
  refine TE_nil0 ?_
  refine pn_seq ?_
  refine pn_drawG [1, 3] ((rd, .cells #[.pointer (some ⟨s2, 0, none⟩), .bool wr2] 77 (0, 0)) :: (s2, .cells #[sv4] 88 (0, 0)) :: (b2, .cells (entV (⟨⟨#[]⟩, 0, (fun _ => 0)⟩ : Ent)).cells 38 (0, 0)) :: HX) [(bc, .cells #[.pointer (some ⟨rd, 0, none⟩)] 73 (0, 0))] rfl rfl (by kernel_rfl) (fun a => by simp -failIfUnchanged <;> omega) ?_
  refine TE_q rfl rfl (RD.move rfl) rfl ?_
  refine TE_q rfl rfl (RD.load (i := 0) Try.isAgg73 rfl rfl rfl) rfl ?_
  refine TE_callM _ ((rd, .cells #[.pointer (some ⟨s2, 0, none⟩), .bool wr2] 77 (0, 0)) :: (s2, .cells #[sv4] 88 (0, 0)) :: HX) [(b2, .cells (entV (⟨⟨#[]⟩, 0, (fun _ => 0)⟩ : Ent)).cells 38 (0, 0))] ((rd, .cells #[.pointer (some ⟨s2, 0, none⟩), .bool wr2] 77 (0, 0)) :: (s2, .cells #[sv4] 88 (0, 0)) :: HX) rfl rfl trivial Try.call33 rfl rfl rfl (ownC (.inr (by simp [keys])) (ownC (.inr (by simp [keys])) (fun e he => hX1 e (List.mem_cons_of_mem _ (List.mem_cons_of_mem _ he))))) (fun a => by simp -failIfUnchanged <;> omega) (fun w hw => c_rdOne rd s2 sv4 ys3 wr2 HX w (hr5.mono (fun _ hw => hw.sp (fun a => by simp -failIfUnchanged <;> omega))) (by first | assumption | omega | (simp; done) | (simp; omega)) (hw.sp (fun a => by simp -failIfUnchanged <;> omega))) (fun a => by simp -failIfUnchanged <;> omega) ?_
  rintro v17 H18 ⟨wr11, ys12, sv13, hr14, hrl15, hg16, rfl, rfl⟩ hX10
  refine TE_sp ((rd, .cells #[.pointer (some ⟨s2, 0, none⟩), .bool wr11] 77 (0, 0)) :: (s2, .cells #[sv13] 88 (0, 0)) :: (b2, .cells (entV (⟨⟨#[]⟩, 0, (fun _ => 0)⟩ : Ent)).cells 38 (0, 0)) :: HX) (fun a => by simp -failIfUnchanged <;> omega) ?_
  refine TE_q rfl rfl (RD.load (i := 0) Try.isAgg73 rfl rfl rfl) rfl ?_
  refine TE_callM _ ((rd, .cells #[.pointer (some ⟨s2, 0, none⟩), .bool wr11] 77 (0, 0)) :: (s2, .cells #[sv13] 88 (0, 0)) :: HX) [(b2, .cells (entV (⟨⟨#[]⟩, 0, (fun _ => 0)⟩ : Ent)).cells 38 (0, 0))] ((rd, .cells #[.pointer (some ⟨s2, 0, none⟩), .bool wr11] 77 (0, 0)) :: (s2, .cells #[sv13] 88 (0, 0)) :: HX) rfl rfl trivial Try.call39 rfl rfl rfl (ownC (.inr (by simp [keys])) (ownC (.inr (by simp [keys])) (fun e he => hX10 e (List.mem_cons_of_mem _ (List.mem_cons_of_mem _ he))))) (fun a => by simp -failIfUnchanged <;> omega) (fun w hw => c_rdId rd s2 sv13 ys12 wr11 HX w (hr14.mono (fun _ hw => hw.sp (fun a => by simp -failIfUnchanged <;> omega))) (by first | assumption | omega | (simp; done) | (simp; omega)) (hw.sp (fun a => by simp -failIfUnchanged <;> omega))) (fun a => by simp -failIfUnchanged <;> omega) ?_
  rintro v26 H27 ⟨wr20, ys21, sv22, hr23, hrl24, hg25, rfl, rfl⟩ hX19
  refine TE_sp ((rd, .cells #[.pointer (some ⟨s2, 0, none⟩), .bool wr20] 77 (0, 0)) :: (s2, .cells #[sv22] 88 (0, 0)) :: (b2, .cells (entV (⟨⟨#[]⟩, 0, (fun _ => 0)⟩ : Ent)).cells 38 (0, 0)) :: HX) (fun a => by simp -failIfUnchanged <;> omega) ?_
  refine TE_q rfl rfl (RD.build (v := entV (⟨(textM (stO ys wr)).1, (oneM (stO ys3 wr2)).1, (idM (stO ys12 wr11)).1⟩ : Ent)) rfl (fun w => by simp [Instr.build, Try.zeroValue38, Try.runUnderlying38, Try.sizeOf25, Try.sizeOf3, Try.sizeOf9, Value.cells, Instr.fill, entV, idV])) rfl ?_
  refine TE_putCW 2 (entV (⟨⟨#[]⟩, 0, (fun _ => 0)⟩ : Ent)).cells (entV (⟨(textM (stO ys wr)).1, (oneM (stO ys3 wr2)).1, (idM (stO ys12 wr11)).1⟩ : Ent)).cells ((rd, .cells #[.pointer (some ⟨s2, 0, none⟩), .bool wr20] 77 (0, 0)) :: (s2, .cells #[sv22] 88 (0, 0)) :: (b2, .cells (entV (⟨(textM (stO ys wr)).1, (oneM (stO ys3 wr2)).1, (idM (stO ys12 wr11)).1⟩ : Ent)).cells 38 (0, 0)) :: HX) rfl Try.sizeOf38 trivial rfl rfl rfl rfl rfl rfl rfl rfl (.inl hb2) ?_
  refine TE_nil ?_
  refine pn_ret ?_
  refine pn_sp ((rd, .cells #[.pointer (some ⟨s2, 0, none⟩), .bool wr20] 77 (0, 0)) :: (s2, .cells #[sv22] 88 (0, 0)) :: (b2, .cells (entV (⟨(textM (stO ys wr)).1, (oneM (stO ys3 wr2)).1, (idM (stO ys12 wr11)).1⟩ : Ent)).cells 38 (0, 0)) :: (bc, .cells #[.pointer (some ⟨rd, 0, none⟩)] 73 (0, 0)) :: HX) (fun a => by simp -failIfUnchanged <;> omega) ?_
  exact pn_doneF rfl ⟨entV (⟨(textM (stO ys wr)).1, (oneM (stO ys3 wr2)).1, (idM (stO ys12 wr11)).1⟩ : Ent), _, b2, 0, rfl, rfl, load_agg (i := 2) Try.isAgg38 Try.sizeOf38 rfl (Nat.le_of_ble_eq_true rfl) (ent_all _), rfl⟩ ⟨wr20, ys21, sv22, hr23, (by omega), (by simp only [entM, hg7, hg16]; exact hg25), (by first | (simp only [entM, hg7, hg16]; done) | (simp only [entM, hg7, hg16]; rfl)), rfl⟩ (fun _ h => h.sp (fun a => by simp -failIfUnchanged <;> omega)) (fun e he => Or.symm ((ownC (.inr (by simp [keys])) (ownC (.inr (by simp [keys])) (fun e he => hX19 e (List.mem_cons_of_mem _ (List.mem_cons_of_mem _ he))))) e he))

end Go.Proofs.Ytloljpefdecmhaa

namespace Go.Proofs.Ytloljpefdecmhaa
open Go Go.Mv
set_option maxRecDepth 8000
def sevL {α : Type} (f : Option (List UInt8) → α × Option (List UInt8)) : Nat → Option (List UInt8) → List α × Option (List UInt8)
  | 0, o => ([], o)
  | _ + 1, none => ([], none)
  | n + 1, some ys => ((f (some ys)).1 :: (sevL f n (f (some ys)).2).1, (sevL f n (f (some ys)).2).2)
def sevM {α : Type} (f : Option (List UInt8) → α × Option (List UInt8)) (most : Nat) (o : Option (List UInt8)) : List α × Option (List UInt8) := sevL f (getM 0 (numD most) o).1 (getM 0 (numD most) o).2
section
variable {α : Type} {f : Option (List UInt8) → α × Option (List UInt8)}
theorem sevL_stop {k : Nat} {ys : List UInt8} {wr : Bool} (h : ¬ 0 < (k : Int) ∨ wr = true) : sevL f k (stO ys wr) = ([], stO ys wr) := by
  rcases h with h | h
  · obtain rfl : k = 0 := by omega
    rfl
  · subst h
    cases k <;> rfl
theorem sevL_end {n k : Nat} {o : Option (List UInt8)} {acc : List α} {ys : List UInt8} {wr : Bool} (hs : sevL f n o = (acc ++ (sevL f k (stO ys wr)).1, (sevL f k (stO ys wr)).2)) (h : ¬ 0 < (k : Int) ∨ wr = true) : sevL f n o = (acc, stO ys wr) := by
  rw [hs, sevL_stop h]; simp
theorem sevL_go {n k : Nat} {o : Option (List UInt8)} {acc : List α} {ys ys' : List UInt8} {wr wr' : Bool} (hs : sevL f n o = (acc ++ (sevL f k (stO ys wr)).1, (sevL f k (stO ys wr)).2)) (h : 0 < (k : Int) ∧ wr = false) (hg : (f (stO ys wr)).2 = stO ys' wr') : sevL f n o = ((acc ++ [(f (stO ys wr)).1]) ++ (sevL f (k - 1) (stO ys' wr')).1, (sevL f (k - 1) (stO ys' wr')).2) := by
  obtain ⟨hk, rfl⟩ := h
  obtain ⟨m, rfl⟩ : ∃ m, k = m + 1 := ⟨k - 1, by omega⟩
  have e : sevL f (m + 1) (stO ys false) = ((f (stO ys false)).1 :: (sevL f m (f (stO ys false)).2).1, (sevL f m (f (stO ys false)).2).2) := rfl
  rw [hs, e, hg]
  simp
end
theorem numD_le {most n : Nat} {ys r : List UInt8} (h : numD most ys = .ok n r) : n ≤ most := by
  unfold numD at h
  split at h
  · cases h
  · cases h
  · split at h
    · cases h
    · cases h; omega
theorem getNum_le {most : Nat} {o : Option (List UInt8)} : (getM 0 (numD most) o).1 ≤ most := by
  cases o with
  | none => exact Nat.zero_le _
  | some ys =>
    simp only [getM]
    split
    · rename_i h; exact numD_le h
    · exact Nat.zero_le _
theorem u64_pred {k : Nat} (h : 0 < (k : Int)) (hk : k ≤ 1000000) : IntKind.u64.wrap ((k : Int) - 1) = ((k - 1 : Nat) : Int) := by
  rw [u64_wrap, Int.emod_eq_of_lt (by omega) (by omega)]; omega

theorem c_sevE (rd : Nat) (s2 : Nat) (sv : Value) (ys : List UInt8) (wr : Bool) (most : Nat) (bt : Nat) (bc : Nat) (HX : Mem) (w : World) (hby : Rdb HX sv ys) (hly : ys.length ≤ 1000000) (hmost : most ≤ 1000) (hH : Hp ((rd, .cells #[.pointer (some ⟨s2, 0, none⟩), .bool wr] 77 (0, 0)) :: (s2, .cells #[sv] 88 (0, 0)) :: (bt, .cells #[.func (.func 34) #[] #[.pointer (some ⟨bc, 0, none⟩)]] 81 (0, 0)) :: (bc, .cells #[.pointer (some ⟨rd, 0, none⟩)] 73 (0, 0)) :: HX) w) : Calls Try.prog 37 #[.pointer (some ⟨rd, 0, none⟩), .int .u64 (most : Int), .func (.func 38) #[] #[.pointer (some ⟨bt, 0, none⟩), .pointer (some ⟨bc, 0, none⟩)]] w (Ret w (keys ((rd, .cells #[.pointer (some ⟨s2, 0, none⟩), .bool wr] 77 (0, 0)) :: (s2, .cells #[sv] 88 (0, 0)) :: HX)) fun v H1 => ∃ wr' ys' sv' st', Rdb HX sv' ys' ∧ ys'.length ≤ ys.length ∧ (sevM entM most (stO ys wr)).2 = stO ys' wr' ∧ BldOk 34 (entC) (sevM entM most (stO ys wr)).1 st' ∧ v = bldVx (sevM entM most (stO ys wr)).1 st' ∧ H1 = (rd, .cells #[.pointer (some ⟨s2, 0, none⟩), .bool wr'] 77 (0, 0)) :: (s2, .cells #[sv'] 88 (0, 0)) :: (bldMx 38 (entC) (sevM entM most (stO ys wr)).1 st' ++ HX)) := by
  refine fn_enter (args := [_, _, _]) Try.func37 rfl Try.ntmps37 rfl hH ?_
  refine pn_seq ?_
  refine pn_plain [] rfl ?_
  refine TE_q rfl rfl (RD.assign rfl) rfl ?_
  refine TE_nil0 ?_
  refine pn_seq ?_
  refine pn_plain [] rfl ?_
  refine TE_q rfl rfl (RD.assign rfl) rfl ?_
  refine TE_nil0 ?_
  refine pn_seq ?_
  refine pn_seq ?_
  refine pn_plain [] rfl ?_
  refine TE_q rfl rfl (RD.move rfl) rfl ?_
  refine TE_q rfl rfl (RD.move rfl) rfl ?_
  refine TE_q rfl rfl (RD.nilCheckP rfl) rfl ?_
  refine TE_q rfl rfl (RD.fieldAddr (o := 0) Try.runUnderlying77 rfl rfl Try.sizeOf74 rfl) rfl ?_
  refine TE_l rfl rfl trivial rfl (RD.load (i := 0) Try.isAgg74 rfl rfl rfl) rfl ?_
  refine TE_q rfl rfl (RD.makeFunc rfl rfl) rfl ?_
  refine TE_q rfl rfl (RD.move rfl) rfl ?_
  refine TE_callM _ ((rd, .cells #[.pointer (some ⟨s2, 0, none⟩), .bool wr] 77 (0, 0)) :: (s2, .cells #[sv] 88 (0, 0)) :: HX) [(bt, .cells #[.func (.func 34) #[] #[.pointer (some ⟨bc, 0, none⟩)]] 81 (0, 0)), (bc, .cells #[.pointer (some ⟨rd, 0, none⟩)] 73 (0, 0))] ((rd, .cells #[.pointer (some ⟨s2, 0, none⟩), .bool wr] 77 (0, 0)) :: (s2, .cells #[sv] 88 (0, 0)) :: HX) rfl rfl trivial Try.call47 rfl rfl rfl (ownC (.inr (by simp [keys])) (ownC (.inr (by simp [keys])) own_k2)) (fun a => by simp -failIfUnchanged <;> omega) (fun w hw => c_getNum rd s2 sv ys wr most HX w (hby.mono (fun _ hw => hw.sp (fun a => by simp -failIfUnchanged <;> omega))) hly (by first | assumption | omega | (simp; done) | (simp; omega)) (hw.sp (fun a => by simp -failIfUnchanged <;> omega))) (fun a => by simp -failIfUnchanged <;> omega) ?_
  rintro v8 H9 ⟨wr2, ys3, sv4, hr5, hrl6, hg7, rfl, rfl⟩ hX1
  refine TE_sp ((rd, .cells #[.pointer (some ⟨s2, 0, none⟩), .bool wr2] 77 (0, 0)) :: (s2, .cells #[sv4] 88 (0, 0)) :: (bt, .cells #[.func (.func 34) #[] #[.pointer (some ⟨bc, 0, none⟩)]] 81 (0, 0)) :: (bc, .cells #[.pointer (some ⟨rd, 0, none⟩)] 73 (0, 0)) :: HX) (fun a => by simp -failIfUnchanged <;> omega) ?_
  refine TE_q rfl rfl (RD.assign rfl) rfl ?_
  refine TE_nil0 ?_
  refine pn_block ?_
  have hnle := getNum_le (most := most) (o := stO ys wr)
  refine pn_loopS (σ := Nat × (List Ent) × (List UInt8) × Value × Bool × SnkS) (fun q => [(0, .pointer (some ⟨rd, 0, none⟩)), (2, .func (.func 38) #[] #[.pointer (some ⟨bt, 0, none⟩), .pointer (some ⟨bc, 0, none⟩)]), (7, bldVx q.2.1 q.2.2.2.2.2), (8, .int .u64 ((q.1 : Nat) : Int))]) (fun q => ((rd, .cells #[.pointer (some ⟨s2, 0, none⟩), .bool q.2.2.2.2.1] 77 (0, 0)) :: (s2, .cells #[q.2.2.2.1] 88 (0, 0)) :: (bt, .cells #[.func (.func 34) #[] #[.pointer (some ⟨bc, 0, none⟩)]] 81 (0, 0)) :: (bc, .cells #[.pointer (some ⟨rd, 0, none⟩)] 73 (0, 0)) :: ((bldMx 38 (entC) q.2.1 q.2.2.2.2.2) ++ HX))) (fun q => (sevL entM (getM 0 (numD most) (stO ys wr)).1 (stO ys3 wr2) = (q.2.1 ++ (sevL entM q.1 (stO q.2.2.1 q.2.2.2.2.1)).1, (sevL entM q.1 (stO q.2.2.1 q.2.2.2.2.1)).2)) ∧ (Rdb HX q.2.2.2.1 q.2.2.1) ∧ (q.2.2.1.length ≤ ys3.length) ∧ (q.2.1.length + q.1 ≤ (getM 0 (numD most) (stO ys wr)).1) ∧ (BldOk 34 (entC) q.2.1 q.2.2.2.2.2) ∧ (∀ e ∈ bldMx 38 (entC) q.2.1 q.2.2.2.2.2, w.heap.size ≤ e.1 ∨ e.1 ∈ (keys ((rd, .cells #[.pointer (some ⟨s2, 0, none⟩), .bool wr] 77 (0, 0)) :: (s2, .cells #[sv] 88 (0, 0)) :: HX)))) (fun q => q.1) ((getM 0 (numD most) (stO ys wr)).1, [], ys3, sv4, wr2, none) ⟨rfl, hr5, (Nat.le_refl _), (by simp), BldOk.nil, (by intro e he; cases he)⟩ ⟨rfl, rfl, rfl, rfl, trivial⟩ (fun a => by simp -failIfUnchanged <;> omega) ?_
  rintro ⟨k, acc, ys9, sv9, wr9, st7⟩ ⟨hs, hby9, hl9, hk9, hbost7, hXst7⟩
  dsimp only at hs hby9 hl9 hk9 hbost7 hXst7 ⊢
  have hRst7 : Rdx 34 (entC) (bldMx 38 (entC) acc st7) (bldVx acc st7) acc := hbost7.rdx (u := 38) entC_len
  refine pn_seq ?_
  refine pn_seq ?_
  refine pn_plain [] rfl ?_
  refine TE_q rfl rfl (RD.move rfl) rfl ?_
  refine TE_q rfl rfl (RD.gtr rfl rfl) rfl ?_
  refine TE_q rfl rfl (RD.move rfl) rfl ?_
  refine TE_join (σ := Unit) (fun _ => [(0, .pointer (some ⟨rd, 0, none⟩)), (2, .func (.func 38) #[] #[.pointer (some ⟨bt, 0, none⟩), .pointer (some ⟨bc, 0, none⟩)]), (7, bldVx acc st7), (8, .int .u64 ((k : Nat) : Int)), (25, .bool ((decide (0 < ((k : Nat) : Int))) && (!wr9)))]) (fun _ => ((rd, .cells #[.pointer (some ⟨s2, 0, none⟩), .bool wr9] 77 (0, 0)) :: (s2, .cells #[sv9] 88 (0, 0)) :: (bt, .cells #[.func (.func 34) #[] #[.pointer (some ⟨bc, 0, none⟩)]] 81 (0, 0)) :: (bc, .cells #[.pointer (some ⟨rd, 0, none⟩)] 73 (0, 0)) :: ((bldMx 38 (entC) acc st7) ++ HX))) (fun _ => True) ?_ ?_
  · refine TE_dec (fun hf10 => ?_) (fun hf10 => ?_)
    · refine TE_gq rfl rfl rfl rfl (RD.move rfl) rfl ?_
      refine TE_gq rfl rfl rfl rfl (RD.nilCheckP rfl) rfl ?_
      refine TE_gq rfl rfl rfl rfl (RD.fieldAddr (o := 1) Try.runUnderlying77 rfl rfl Try.sizeOf4 rfl) rfl ?_
      refine TE_l rfl rfl ⟨_, rfl, rfl⟩ rfl (RD.load (i := 0) Try.isAgg4 rfl rfl rfl) rfl ?_
      refine TE_gq rfl rfl rfl rfl (RD.not rfl) rfl ?_
      refine TE_q rfl rfl (RD.pickT rfl rfl) rfl ?_
      refine TE_nil0 ?_
      exact pn_give () trivial ⟨rfl, rfl, rfl, rfl, congrArg (fun b => some (Value.bool b)) (by first | (simp [hf10]; done) | (simp only [decide_eq_true hf10]; rfl)), trivial⟩ (fun _ hw => hw.sp (fun a => by simp -failIfUnchanged <;> omega))
    · refine TE_s rfl rfl rfl rfl rfl ?_
      refine TE_s rfl rfl rfl rfl rfl ?_
      refine TE_s rfl rfl rfl rfl rfl ?_
      refine TE_s rfl rfl rfl rfl rfl ?_
      refine TE_s rfl rfl rfl rfl rfl ?_
      refine TE_q rfl rfl (RD.pickF rfl rfl) rfl ?_
      refine TE_nil0 ?_
      exact pn_give () trivial ⟨rfl, rfl, rfl, rfl, congrArg (fun b => some (Value.bool b)) (by first | (simp [hf10]; done) | (simp only [decide_eq_false hf10]; rfl)), trivial⟩ (fun _ hw => hw.sp (fun a => by simp -failIfUnchanged <;> omega))
  rintro _ -
  refine pn_cond rfl (fun hc11 => ?_) (fun hc11 => ?_)
  · simp only [Bool.and_eq_true, Bool.not_eq_true', decide_eq_true_eq] at hc11
    refine pn_skip ?_
    refine pn_seq ?_
    refine pn_block ?_
    refine pn_plain [] rfl ?_
    refine TE_q rfl rfl (RD.move rfl) rfl ?_
    refine TE_q rfl rfl (RD.move rfl) rfl ?_
    refine TE_callM _ ((rd, .cells #[.pointer (some ⟨s2, 0, none⟩), .bool wr9] 77 (0, 0)) :: (s2, .cells #[sv9] 88 (0, 0)) :: HX) ((bt, .cells #[.func (.func 34) #[] #[.pointer (some ⟨bc, 0, none⟩)]] 81 (0, 0)) :: (bc, .cells #[.pointer (some ⟨rd, 0, none⟩)] 73 (0, 0)) :: (bldMx 38 (entC) acc st7)) ((rd, .cells #[.pointer (some ⟨s2, 0, none⟩), .bool wr9] 77 (0, 0)) :: (s2, .cells #[sv9] 88 (0, 0)) :: (bt, .cells #[.func (.func 34) #[] #[.pointer (some ⟨bc, 0, none⟩)]] 81 (0, 0)) :: (bc, .cells #[.pointer (some ⟨rd, 0, none⟩)] 73 (0, 0)) :: HX) rfl rfl trivial Try.call38 rfl rfl rfl (ownC (.inr (by simp [keys])) (ownC (.inr (by simp [keys])) (fun e he => hX1 e (List.mem_cons_of_mem _ (List.mem_cons_of_mem _ he))))) (fun a => by simp -failIfUnchanged <;> omega) (fun w hw => c_entry bt bc rd s2 sv9 ys9 wr9 HX w (hby9.mono (fun _ hw => hw.sp (fun a => by simp -failIfUnchanged <;> omega))) (by first | assumption | omega | (simp; done) | (simp; omega)) (hw.sp (fun a => by simp -failIfUnchanged <;> omega))) (fun a => by simp -failIfUnchanged <;> omega) ?_
    rintro v19 H20 ⟨wr13, ys14, sv15, hr16, hrl17, hg18, rfl, rfl⟩ hX12
    refine TE_sp ((rd, .cells #[.pointer (some ⟨s2, 0, none⟩), .bool wr13] 77 (0, 0)) :: (s2, .cells #[sv15] 88 (0, 0)) :: (bt, .cells #[.func (.func 34) #[] #[.pointer (some ⟨bc, 0, none⟩)]] 81 (0, 0)) :: (bc, .cells #[.pointer (some ⟨rd, 0, none⟩)] 73 (0, 0)) :: (HX ++ (bldMx 38 (entC) acc st7))) (fun a => by simp -failIfUnchanged <;> omega) ?_
    refine TE_buildSlice (cells := (cat entC [(entM (stO ys9 wr9)).1] ++ []).toArray) rfl Try.runUnderlying23 Try.sizeOf38 Try.zeroValue38 rfl rfl rfl (by kernel_rfl) trivial rfl fun b31 hb31 => ?_
    refine TE_sp ((bldMx 38 (entC) acc st7) ++ ((b31, .cells (cat entC [(entM (stO ys9 wr9)).1] ++ []).toArray 38 (0, 0)) :: (rd, .cells #[.pointer (some ⟨s2, 0, none⟩), .bool wr13] 77 (0, 0)) :: (s2, .cells #[sv15] 88 (0, 0)) :: (bt, .cells #[.func (.func 34) #[] #[.pointer (some ⟨bc, 0, none⟩)]] 81 (0, 0)) :: (bc, .cells #[.pointer (some ⟨rd, 0, none⟩)] 73 (0, 0)) :: HX)) (fun a => by simp -failIfUnchanged <;> omega) ?_
    refine TE_appendX (st := st7) (l := acc) (ys := [(entM (stO ys9 wr9)).1]) ((b31, .cells (cat entC [(entM (stO ys9 wr9)).1] ++ []).toArray 38 (0, 0)) :: (rd, .cells #[.pointer (some ⟨s2, 0, none⟩), .bool wr13] 77 (0, 0)) :: (s2, .cells #[sv15] 88 (0, 0)) :: (bt, .cells #[.func (.func 34) #[] #[.pointer (some ⟨bc, 0, none⟩)]] 81 (0, 0)) :: (bc, .cells #[.pointer (some ⟨rd, 0, none⟩)] 73 (0, 0)) :: HX) entC_len entC_one rfl rfl rfl rfl trivial rfl Try.underlying23 el_ent rfl rfl rfl hbost7 (Rdx.blk (enc := entC) (H := [(b31, .cells (cat entC [(entM (stO ys9 wr9)).1] ++ []).toArray 38 (0, 0))]) (xs := [(entM (stO ys9 wr9)).1]) (n := 1) (i := 0) (tl := []) (c := 1) entC_len rfl rfl (Nat.le_refl _)) (fun _ hw => hw.sp (fun a => by simp -failIfUnchanged <;> omega)) (by simp; omega) rfl hXst7 ?_
    intro st21 hbo22 hX23 _
    have hR25 : Rdx 34 (entC) (bldMx 38 (entC) (acc ++ [(entM (stO ys9 wr9)).1]) st21) (bldVx (acc ++ [(entM (stO ys9 wr9)).1]) st21) (acc ++ [(entM (stO ys9 wr9)).1]) := hbo22.rdx (u := 38) entC_len
    refine TE_sp ((b31, .cells (cat entC [(entM (stO ys9 wr9)).1] ++ []).toArray 38 (0, 0)) :: (rd, .cells #[.pointer (some ⟨s2, 0, none⟩), .bool wr13] 77 (0, 0)) :: (s2, .cells #[sv15] 88 (0, 0)) :: (bt, .cells #[.func (.func 34) #[] #[.pointer (some ⟨bc, 0, none⟩)]] 81 (0, 0)) :: (bc, .cells #[.pointer (some ⟨rd, 0, none⟩)] 73 (0, 0)) :: ((bldMx 38 (entC) (acc ++ [(entM (stO ys9 wr9)).1]) st21) ++ HX)) (fun a => by simp -failIfUnchanged <;> omega) ?_
    refine TE_q rfl rfl (RD.assign rfl) rfl ?_
    refine TE_nil0 ?_
    refine pn_plainG [] ((rd, .cells #[.pointer (some ⟨s2, 0, none⟩), .bool wr13] 77 (0, 0)) :: (s2, .cells #[sv15] 88 (0, 0)) :: (bt, .cells #[.func (.func 34) #[] #[.pointer (some ⟨bc, 0, none⟩)]] 81 (0, 0)) :: (bc, .cells #[.pointer (some ⟨rd, 0, none⟩)] 73 (0, 0)) :: ((bldMx 38 (entC) (acc ++ [(entM (stO ys9 wr9)).1]) st21) ++ HX)) rfl (fun a => by simp -failIfUnchanged <;> omega) ?_
    refine TE_q rfl rfl (RD.move rfl) rfl ?_
    refine TE_q rfl rfl (RD.sub rfl rfl) rfl ?_
    refine TE_q rfl rfl (RD.assign rfl) rfl ?_
    refine TE_nil0 ?_
    have he26 : (IntKind.u64.wrap (((k : Nat) : Int) - 1)) = (((k - 1) : Nat) : Int) := (u64_pred hc11.1 (by omega))
    exact pn_againS ((k - 1), (acc ++ [(entM (stO ys9 wr9)).1]), ys14, sv15, wr13, st21) ⟨(sevL_go hs hc11 hg18), hr16, (show ys14.length ≤ ys3.length by omega), (show (acc ++ [(entM (stO ys9 wr9)).1]).length + (k - 1) ≤ (getM 0 (numD most) (stO ys wr)).1 by simp only [List.length_append, List.length_cons, List.length_nil]; omega), hbo22, hX23⟩ (by dsimp only; omega) ⟨rfl, rfl, rfl, (congrArg (fun z => some (Value.int .u64 z)) he26), trivial⟩ (fun a => by simp -failIfUnchanged <;> omega)
  · simp only [Bool.and_eq_false_iff, Bool.not_eq_false', decide_eq_false_iff_not] at hc11
    refine pn_exit ?_
    refine pn_seq ?_
    refine pn_plain [] rfl ?_
    refine TE_q rfl rfl (RD.move rfl) rfl ?_
    refine TE_q rfl rfl (RD.assign rfl) rfl ?_
    refine TE_nil0 ?_
    refine pn_ret ?_
    have hg27 : (sevM entM most (stO ys wr)) = (acc, stO ys9 wr9) := (by rw [sevM, hg7]; exact sevL_end hs hc11)
    exact pn_doneS ((rd, .cells #[.pointer (some ⟨s2, 0, none⟩), .bool wr9] 77 (0, 0)) :: (s2, .cells #[sv9] 88 (0, 0)) :: ((bldMx 38 (entC) acc st7) ++ HX)) rfl rfl ⟨wr9, ys9, sv9, st7, hby9, (by omega), (by rw [hg27]), (by rw [hg27]; exact hbost7), (by rw [hg27]; rfl), (by rw [hg27])⟩ (fun a => by simp -failIfUnchanged <;> omega) (ownC (.inr (by simp [keys])) (ownC (.inr (by simp [keys])) (ownA hXst7 (fun e he => hX1 e (List.mem_cons_of_mem _ (List.mem_cons_of_mem _ he))))))

theorem c_sevI (rd : Nat) (s2 : Nat) (sv : Value) (ys : List UInt8) (wr : Bool) (most : Nat) (HX : Mem) (w : World) (hby : Rdb HX sv ys) (hly : ys.length ≤ 1000000) (hmost : most ≤ 1000) (hH : Hp ((rd, .cells #[.pointer (some ⟨s2, 0, none⟩), .bool wr] 77 (0, 0)) :: (s2, .cells #[sv] 88 (0, 0)) :: HX) w) : Calls Try.prog 40 #[.pointer (some ⟨rd, 0, none⟩), .int .u64 (most : Int), .func (.func 39) #[.pointer (some ⟨rd, 0, none⟩)] #[]] w (Ret w (keys ((rd, .cells #[.pointer (some ⟨s2, 0, none⟩), .bool wr] 77 (0, 0)) :: (s2, .cells #[sv] 88 (0, 0)) :: HX)) fun v H1 => ∃ wr' ys' sv' st', Rdb HX sv' ys' ∧ ys'.length ≤ ys.length ∧ (sevM idM most (stO ys wr)).2 = stO ys' wr' ∧ BldOk 32 (idC) (sevM idM most (stO ys wr)).1 st' ∧ v = bldVx (sevM idM most (stO ys wr)).1 st' ∧ H1 = (rd, .cells #[.pointer (some ⟨s2, 0, none⟩), .bool wr'] 77 (0, 0)) :: (s2, .cells #[sv'] 88 (0, 0)) :: (bldMx 25 (idC) (sevM idM most (stO ys wr)).1 st' ++ HX)) := by
  refine fn_enter (args := [_, _, _]) Try.func40 rfl Try.ntmps40 rfl hH ?_
  refine pn_seq ?_
  refine pn_plain [] rfl ?_
  refine TE_q rfl rfl (RD.assign rfl) rfl ?_
  refine TE_nil0 ?_
  refine pn_seq ?_
  refine pn_plain [] rfl ?_
  refine TE_q rfl rfl (RD.assign rfl) rfl ?_
  refine TE_nil0 ?_
  refine pn_seq ?_
  refine pn_seq ?_
  refine pn_plain [] rfl ?_
  refine TE_q rfl rfl (RD.move rfl) rfl ?_
  refine TE_q rfl rfl (RD.move rfl) rfl ?_
  refine TE_q rfl rfl (RD.nilCheckP rfl) rfl ?_
  refine TE_q rfl rfl (RD.fieldAddr (o := 0) Try.runUnderlying77 rfl rfl Try.sizeOf74 rfl) rfl ?_
  refine TE_l rfl rfl trivial rfl (RD.load (i := 0) Try.isAgg74 rfl rfl rfl) rfl ?_
  refine TE_q rfl rfl (RD.makeFunc rfl rfl) rfl ?_
  refine TE_q rfl rfl (RD.move rfl) rfl ?_
  refine TE_callM _ ((rd, .cells #[.pointer (some ⟨s2, 0, none⟩), .bool wr] 77 (0, 0)) :: (s2, .cells #[sv] 88 (0, 0)) :: HX) [] ((rd, .cells #[.pointer (some ⟨s2, 0, none⟩), .bool wr] 77 (0, 0)) :: (s2, .cells #[sv] 88 (0, 0)) :: HX) rfl rfl trivial Try.call47 rfl rfl rfl (ownC (.inr (by simp [keys])) (ownC (.inr (by simp [keys])) own_k2)) (fun a => by simp -failIfUnchanged <;> omega) (fun w hw => c_getNum rd s2 sv ys wr most HX w (hby.mono (fun _ hw => hw.sp (fun a => by simp -failIfUnchanged <;> omega))) hly (by first | assumption | omega | (simp; done) | (simp; omega)) (hw.sp (fun a => by simp -failIfUnchanged <;> omega))) (fun a => by simp -failIfUnchanged <;> omega) ?_
  rintro v8 H9 ⟨wr2, ys3, sv4, hr5, hrl6, hg7, rfl, rfl⟩ hX1
  refine TE_sp ((rd, .cells #[.pointer (some ⟨s2, 0, none⟩), .bool wr2] 77 (0, 0)) :: (s2, .cells #[sv4] 88 (0, 0)) :: HX) (fun a => by simp -failIfUnchanged <;> omega) ?_
  refine TE_q rfl rfl (RD.assign rfl) rfl ?_
  refine TE_nil0 ?_
  refine pn_block ?_
  have hnle := getNum_le (most := most) (o := stO ys wr)
  refine pn_loopS (σ := Nat × (List (Nat → Int)) × (List UInt8) × Value × Bool × SnkS) (fun q => [(0, .pointer (some ⟨rd, 0, none⟩)), (2, .func (.func 39) #[.pointer (some ⟨rd, 0, none⟩)] #[]), (7, bldVx q.2.1 q.2.2.2.2.2), (8, .int .u64 ((q.1 : Nat) : Int))]) (fun q => ((rd, .cells #[.pointer (some ⟨s2, 0, none⟩), .bool q.2.2.2.2.1] 77 (0, 0)) :: (s2, .cells #[q.2.2.2.1] 88 (0, 0)) :: ((bldMx 25 (idC) q.2.1 q.2.2.2.2.2) ++ HX))) (fun q => (sevL idM (getM 0 (numD most) (stO ys wr)).1 (stO ys3 wr2) = (q.2.1 ++ (sevL idM q.1 (stO q.2.2.1 q.2.2.2.2.1)).1, (sevL idM q.1 (stO q.2.2.1 q.2.2.2.2.1)).2)) ∧ (Rdb HX q.2.2.2.1 q.2.2.1) ∧ (q.2.2.1.length ≤ ys3.length) ∧ (q.2.1.length + q.1 ≤ (getM 0 (numD most) (stO ys wr)).1) ∧ (BldOk 32 (idC) q.2.1 q.2.2.2.2.2) ∧ (∀ e ∈ bldMx 25 (idC) q.2.1 q.2.2.2.2.2, w.heap.size ≤ e.1 ∨ e.1 ∈ (keys ((rd, .cells #[.pointer (some ⟨s2, 0, none⟩), .bool wr] 77 (0, 0)) :: (s2, .cells #[sv] 88 (0, 0)) :: HX)))) (fun q => q.1) ((getM 0 (numD most) (stO ys wr)).1, [], ys3, sv4, wr2, none) ⟨rfl, hr5, (Nat.le_refl _), (by simp), BldOk.nil, (by intro e he; cases he)⟩ ⟨rfl, rfl, rfl, rfl, trivial⟩ (fun a => by simp -failIfUnchanged <;> omega) ?_
  rintro ⟨k, acc, ys9, sv9, wr9, st7⟩ ⟨hs, hby9, hl9, hk9, hbost7, hXst7⟩
  dsimp only at hs hby9 hl9 hk9 hbost7 hXst7 ⊢
  have hRst7 : Rdx 32 (idC) (bldMx 25 (idC) acc st7) (bldVx acc st7) acc := hbost7.rdx (u := 25) idC_len
  refine pn_seq ?_
  refine pn_seq ?_
  refine pn_plain [] rfl ?_
  refine TE_q rfl rfl (RD.move rfl) rfl ?_
  refine TE_q rfl rfl (RD.gtr rfl rfl) rfl ?_
  refine TE_q rfl rfl (RD.move rfl) rfl ?_
  refine TE_join (σ := Unit) (fun _ => [(0, .pointer (some ⟨rd, 0, none⟩)), (2, .func (.func 39) #[.pointer (some ⟨rd, 0, none⟩)] #[]), (7, bldVx acc st7), (8, .int .u64 ((k : Nat) : Int)), (25, .bool ((decide (0 < ((k : Nat) : Int))) && (!wr9)))]) (fun _ => ((rd, .cells #[.pointer (some ⟨s2, 0, none⟩), .bool wr9] 77 (0, 0)) :: (s2, .cells #[sv9] 88 (0, 0)) :: ((bldMx 25 (idC) acc st7) ++ HX))) (fun _ => True) ?_ ?_
  · refine TE_dec (fun hf10 => ?_) (fun hf10 => ?_)
    · refine TE_gq rfl rfl rfl rfl (RD.move rfl) rfl ?_
      refine TE_gq rfl rfl rfl rfl (RD.nilCheckP rfl) rfl ?_
      refine TE_gq rfl rfl rfl rfl (RD.fieldAddr (o := 1) Try.runUnderlying77 rfl rfl Try.sizeOf4 rfl) rfl ?_
      refine TE_l rfl rfl ⟨_, rfl, rfl⟩ rfl (RD.load (i := 0) Try.isAgg4 rfl rfl rfl) rfl ?_
      refine TE_gq rfl rfl rfl rfl (RD.not rfl) rfl ?_
      refine TE_q rfl rfl (RD.pickT rfl rfl) rfl ?_
      refine TE_nil0 ?_
      exact pn_give () trivial ⟨rfl, rfl, rfl, rfl, congrArg (fun b => some (Value.bool b)) (by first | (simp [hf10]; done) | (simp only [decide_eq_true hf10]; rfl)), trivial⟩ (fun _ hw => hw.sp (fun a => by simp -failIfUnchanged <;> omega))
    · refine TE_s rfl rfl rfl rfl rfl ?_
      refine TE_s rfl rfl rfl rfl rfl ?_
      refine TE_s rfl rfl rfl rfl rfl ?_
      refine TE_s rfl rfl rfl rfl rfl ?_
      refine TE_s rfl rfl rfl rfl rfl ?_
      refine TE_q rfl rfl (RD.pickF rfl rfl) rfl ?_
      refine TE_nil0 ?_
      exact pn_give () trivial ⟨rfl, rfl, rfl, rfl, congrArg (fun b => some (Value.bool b)) (by first | (simp [hf10]; done) | (simp only [decide_eq_false hf10]; rfl)), trivial⟩ (fun _ hw => hw.sp (fun a => by simp -failIfUnchanged <;> omega))
  rintro _ -
  refine pn_cond rfl (fun hc11 => ?_) (fun hc11 => ?_)
  · simp only [Bool.and_eq_true, Bool.not_eq_true', decide_eq_true_eq] at hc11
    refine pn_skip ?_
    refine pn_seq ?_
    refine pn_block ?_
    refine pn_plain [] rfl ?_
    refine TE_q rfl rfl (RD.move rfl) rfl ?_
    refine TE_q rfl rfl (RD.move rfl) rfl ?_
    refine TE_callM _ ((rd, .cells #[.pointer (some ⟨s2, 0, none⟩), .bool wr9] 77 (0, 0)) :: (s2, .cells #[sv9] 88 (0, 0)) :: HX) (bldMx 25 (idC) acc st7) ((rd, .cells #[.pointer (some ⟨s2, 0, none⟩), .bool wr9] 77 (0, 0)) :: (s2, .cells #[sv9] 88 (0, 0)) :: HX) rfl rfl trivial Try.call39 rfl rfl rfl (ownC (.inr (by simp [keys])) (ownC (.inr (by simp [keys])) (fun e he => hX1 e (List.mem_cons_of_mem _ (List.mem_cons_of_mem _ he))))) (fun a => by simp -failIfUnchanged <;> omega) (fun w hw => c_rdId rd s2 sv9 ys9 wr9 HX w (hby9.mono (fun _ hw => hw.sp (fun a => by simp -failIfUnchanged <;> omega))) (by first | assumption | omega | (simp; done) | (simp; omega)) (hw.sp (fun a => by simp -failIfUnchanged <;> omega))) (fun a => by simp -failIfUnchanged <;> omega) ?_
    rintro v19 H20 ⟨wr13, ys14, sv15, hr16, hrl17, hg18, rfl, rfl⟩ hX12
    refine TE_sp ((rd, .cells #[.pointer (some ⟨s2, 0, none⟩), .bool wr13] 77 (0, 0)) :: (s2, .cells #[sv15] 88 (0, 0)) :: (HX ++ (bldMx 25 (idC) acc st7))) (fun a => by simp -failIfUnchanged <;> omega) ?_
    refine TE_buildSlice (cells := (cat idC [(idM (stO ys9 wr9)).1] ++ []).toArray) rfl Try.runUnderlying26 Try.sizeOf25 Try.zeroValue25 rfl rfl rfl (by kernel_rfl) trivial rfl fun b31 hb31 => ?_
    refine TE_sp ((bldMx 25 (idC) acc st7) ++ ((b31, .cells (cat idC [(idM (stO ys9 wr9)).1] ++ []).toArray 25 (0, 0)) :: (rd, .cells #[.pointer (some ⟨s2, 0, none⟩), .bool wr13] 77 (0, 0)) :: (s2, .cells #[sv15] 88 (0, 0)) :: HX)) (fun a => by simp -failIfUnchanged <;> omega) ?_
    refine TE_appendX (st := st7) (l := acc) (ys := [(idM (stO ys9 wr9)).1]) ((b31, .cells (cat idC [(idM (stO ys9 wr9)).1] ++ []).toArray 25 (0, 0)) :: (rd, .cells #[.pointer (some ⟨s2, 0, none⟩), .bool wr13] 77 (0, 0)) :: (s2, .cells #[sv15] 88 (0, 0)) :: HX) idC_len idC_one rfl rfl rfl rfl trivial rfl Try.underlying26 elId rfl rfl rfl hbost7 (Rdx.blk (enc := idC) (H := [(b31, .cells (cat idC [(idM (stO ys9 wr9)).1] ++ []).toArray 25 (0, 0))]) (xs := [(idM (stO ys9 wr9)).1]) (n := 1) (i := 0) (tl := []) (c := 1) idC_len rfl rfl (Nat.le_refl _)) (fun _ hw => hw.sp (fun a => by simp -failIfUnchanged <;> omega)) (by simp; omega) rfl hXst7 ?_
    intro st21 hbo22 hX23 _
    have hR25 : Rdx 32 (idC) (bldMx 25 (idC) (acc ++ [(idM (stO ys9 wr9)).1]) st21) (bldVx (acc ++ [(idM (stO ys9 wr9)).1]) st21) (acc ++ [(idM (stO ys9 wr9)).1]) := hbo22.rdx (u := 25) idC_len
    refine TE_sp ((b31, .cells (cat idC [(idM (stO ys9 wr9)).1] ++ []).toArray 25 (0, 0)) :: (rd, .cells #[.pointer (some ⟨s2, 0, none⟩), .bool wr13] 77 (0, 0)) :: (s2, .cells #[sv15] 88 (0, 0)) :: ((bldMx 25 (idC) (acc ++ [(idM (stO ys9 wr9)).1]) st21) ++ HX)) (fun a => by simp -failIfUnchanged <;> omega) ?_
    refine TE_q rfl rfl (RD.assign rfl) rfl ?_
    refine TE_nil0 ?_
    refine pn_plainG [] ((rd, .cells #[.pointer (some ⟨s2, 0, none⟩), .bool wr13] 77 (0, 0)) :: (s2, .cells #[sv15] 88 (0, 0)) :: ((bldMx 25 (idC) (acc ++ [(idM (stO ys9 wr9)).1]) st21) ++ HX)) rfl (fun a => by simp -failIfUnchanged <;> omega) ?_
    refine TE_q rfl rfl (RD.move rfl) rfl ?_
    refine TE_q rfl rfl (RD.sub rfl rfl) rfl ?_
    refine TE_q rfl rfl (RD.assign rfl) rfl ?_
    refine TE_nil0 ?_
    have he26 : (IntKind.u64.wrap (((k : Nat) : Int) - 1)) = (((k - 1) : Nat) : Int) := (u64_pred hc11.1 (by omega))
    exact pn_againS ((k - 1), (acc ++ [(idM (stO ys9 wr9)).1]), ys14, sv15, wr13, st21) ⟨(sevL_go hs hc11 hg18), hr16, (show ys14.length ≤ ys3.length by omega), (show (acc ++ [(idM (stO ys9 wr9)).1]).length + (k - 1) ≤ (getM 0 (numD most) (stO ys wr)).1 by simp only [List.length_append, List.length_cons, List.length_nil]; omega), hbo22, hX23⟩ (by dsimp only; omega) ⟨rfl, rfl, rfl, (congrArg (fun z => some (Value.int .u64 z)) he26), trivial⟩ (fun a => by simp -failIfUnchanged <;> omega)
  · simp only [Bool.and_eq_false_iff, Bool.not_eq_false', decide_eq_false_iff_not] at hc11
    refine pn_exit ?_
    refine pn_seq ?_
    refine pn_plain [] rfl ?_
    refine TE_q rfl rfl (RD.move rfl) rfl ?_
    refine TE_q rfl rfl (RD.assign rfl) rfl ?_
    refine TE_nil0 ?_
    refine pn_ret ?_
    have hg27 : (sevM idM most (stO ys wr)) = (acc, stO ys9 wr9) := (by rw [sevM, hg7]; exact sevL_end hs hc11)
    exact pn_doneS ((rd, .cells #[.pointer (some ⟨s2, 0, none⟩), .bool wr9] 77 (0, 0)) :: (s2, .cells #[sv9] 88 (0, 0)) :: ((bldMx 25 (idC) acc st7) ++ HX)) rfl rfl ⟨wr9, ys9, sv9, st7, hby9, (by omega), (by rw [hg27]), (by rw [hg27]; exact hbost7), (by rw [hg27]; rfl), (by rw [hg27])⟩ (fun a => by simp -failIfUnchanged <;> omega) (ownC (.inr (by simp [keys])) (ownC (.inr (by simp [keys])) (ownA hXst7 (fun e he => hX1 e (List.mem_cons_of_mem _ (List.mem_cons_of_mem _ he))))))

end Go.Proofs.Ytloljpefdecmhaa
