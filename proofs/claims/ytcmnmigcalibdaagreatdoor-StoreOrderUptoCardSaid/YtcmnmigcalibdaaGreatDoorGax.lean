import Derived.Test.YtcmnmigcalibdaaGreatDoorGaw
namespace Go.Proofs.YtcmnmigcalibdaaGreatDoor
open Go.Proofs.Tryz
open Go Go.Mv
set_option maxRecDepth 8000
theorem c_stNone (s : Nat) (mb : Nat) (m : St8) (w : World) (hst : StOk m) (hH : Hp [(s, .cells #[.int .i64 m.q, .int .i64 m.sz, .map (some mb)] 69 (0, 0)), (mb, mapO keyV en8V m.l m.c)] w) : Calls Tryz.prog 77 #[.pointer (some ⟨s, 0, none⟩)] w (Ret w [] fun v H1 => v = .bool false ∧ H1 = []) := by
 refine fn_enter (args := [_]) func77 rfl ntmps77 rfl hH (sq (pl (qa rfl (n0 (sq (pl (qm rfl (qq rfl (RD.as (v := .bool false) (RD.ptr_eql_nil runUnderlying28 rfl rfl) rfl) (qm rfl ?_)))))))))
 exact qg rfl (TE_gq rfl rfl rfl rfl (RD.nilCheckP rfl) rfl (TE_gq rfl rfl rfl rfl (RD.fieldAddr (o := 2) runUnderlying69 rfl rfl sizeOf67 rfl) rfl (ql rfl (RD.load (i := 0) isAgg67 rfl rfl rfl) (TE_gq rfl rfl rfl rfl (RD.as (v := .bool false) (RD.map_eql_nil underlying67 rfl rfl) rfl) rfl (qF rfl (qa rfl (n0 (rt (pn_doneS [] rfl rfl ⟨rfl, rfl⟩ (fun _ => Nat.zero_le _) (fun _ he => nomatch he))))))))))
theorem c_stLen (s : Nat) (mb : Nat) (m : St8) (w : World) (hst : StOk m) (hH : Hp [(s, .cells #[.int .i64 m.q, .int .i64 m.sz, .map (some mb)] 69 (0, 0)), (mb, mapO keyV en8V m.l m.c)] w) : Calls Tryz.prog 29 #[.pointer (some ⟨s, 0, none⟩)] w (Ret w [] fun v H1 => v = .int .i64 (m.l.length : Int) ∧ H1 = []) := by
 refine fn_enter (args := [_]) func29 rfl ntmps29 rfl hH (sq (pl (qa rfl (n0 (sq (sq (pl (qm rfl (cG rfl call77 (fun w hw => c_stNone s mb m w hst hw.s) ?_)))))))))
 rintro v1 H2 ⟨rfl, rfl⟩ -
 refine n0 (pn_condF rfl (sk (sq (pl (qm rfl (qn rfl (qq rfl (RD.fieldAddr (o := 2) runUnderlying69 rfl rfl sizeOf67 rfl) (ql rfl (RD.load (i := 0) isAgg67 rfl rfl rfl) (ql rfl (RD.lenM (i := 1) (l := m.l) runUnderlying67 rfl rfl) ?_)))))))))
 exact qa rfl (n0 (rt (pn_doneS [] rfl rfl ⟨rfl, rfl⟩ (fun _ => Nat.zero_le _) (fun _ he => nomatch he))))
theorem c_stSize (s : Nat) (mb : Nat) (m : St8) (w : World) (hst : StOk m) (hH : Hp [(s, .cells #[.int .i64 m.q, .int .i64 m.sz, .map (some mb)] 69 (0, 0)), (mb, mapO keyV en8V m.l m.c)] w) : Calls Tryz.prog 25 #[.pointer (some ⟨s, 0, none⟩)] w (Ret w [] fun v H1 => v = .int .i64 m.sz ∧ H1 = []) := by
 refine fn_enter (args := [_]) func25 rfl ntmps25 rfl hH (sq (pl (qa rfl (n0 (sq (sq (pl (qm rfl (cG rfl call77 (fun w hw => c_stNone s mb m w hst hw.s) ?_)))))))))
 rintro v1 H2 ⟨rfl, rfl⟩ -
 refine n0 (pn_condF rfl (sk (sq (pl (qm rfl (qn rfl (qq rfl (RD.fieldAddr (o := 1) runUnderlying69 rfl rfl sizeOf3 rfl) (ql rfl (RD.load (i := 0) isAgg3 rfl rfl rfl) (qa rfl ?_)))))))))
 exact n0 (rt (pn_doneS [] rfl rfl ⟨rfl, rfl⟩ (fun _ => Nat.zero_le _) (fun _ he => nomatch he)))
theorem c_stLeft (s : Nat) (mb : Nat) (m : St8) (w : World) (hst : StOk m) (hH : Hp [(s, .cells #[.int .i64 m.q, .int .i64 m.sz, .map (some mb)] 69 (0, 0)), (mb, mapO keyV en8V m.l m.c)] w) : Calls Tryz.prog 30 #[.pointer (some ⟨s, 0, none⟩)] w (Ret w [] fun v H1 => v = .int .i64 (m.q - m.sz) ∧ H1 = []) := by
 have hs1 := hst.s0; have hs2 := hst.sq; have hs3 := hst.q
 refine fn_enter (args := [_]) func30 rfl ntmps30 rfl hH (sq (pl (qa rfl (n0 (sq (sq (pl (qm rfl (cG rfl call77 (fun w hw => c_stNone s mb m w hst hw.s) ?_)))))))))
 rintro v1 H2 ⟨rfl, rfl⟩ -
 refine n0 (pn_condF rfl (sk (sq (dG [3, 7] [] [(s, .cells #[.int .i64 m.q, .int .i64 m.sz, .map (some mb)] 69 (0, 0)), (mb, mapO keyV en8V m.l m.c)] (qm rfl (qn rfl (qq rfl (RD.fieldAddr (o := 0) runUnderlying69 rfl rfl sizeOf3 rfl) (qq rfl (RD.load (i := 0) isAgg3 rfl rfl rfl) (qm rfl ?_)))))))))
 exact qn rfl (qq rfl (RD.fieldAddr (o := 1) runUnderlying69 rfl rfl sizeOf3 rfl) (qq rfl (RD.load (i := 0) isAgg3 rfl rfl rfl) (qq rfl (RD.subI rfl rfl (by omega) (by omega)) (qa rfl (TE_nil (rt (pn_doneS [] rfl rfl ⟨rfl, rfl⟩ (fun _ => Nat.zero_le _) (fun _ he => nomatch he))))))))
theorem c_stPut (s : Nat) (mb : Nat) (m : St8) (bv : Value) (b : List UInt8) (HX : Mem) (w : World) (hst : StOk m) (hbb : Rdb ((0, .cells (wfV 8 (s8f shaB)).cells 151 (0, 0)) :: (1, .cells (wfV 64 (gtf shaK)).cells 286 (0, 0)) :: HX) bv b) (hlb : b.length ≤ 1000000) (hH : Hp ((s, .cells #[.int .i64 m.q, .int .i64 m.sz, .map (some mb)] 69 (0, 0)) :: (mb, mapO keyV en8V m.l m.c) :: (0, .cells (wfV 8 (s8f shaB)).cells 151 (0, 0)) :: (1, .cells (wfV 64 (gtf shaK)).cells 286 (0, 0)) :: HX) w) : Calls Tryz.prog 21 #[.pointer (some ⟨s, 0, none⟩), bv] w (Ret w (keys [(s, .cells #[.int .i64 m.q, .int .i64 m.sz, .map (some mb)] 69 (0, 0)), (mb, mapO keyV en8V m.l m.c)]) fun v H1 => v = .tuple #[idV (put8 m b).2.1, .int .i64 (put8 m b).2.2] ∧ H1 = [(s, .cells #[.int .i64 ((put8 m b).1).q, .int .i64 ((put8 m b).1).sz, .map (some mb)] 69 (0, 0)), (mb, mapO keyV en8V ((put8 m b).1).l ((put8 m b).1).c)]) := by
 have hs1 := hst.s0; have hs2 := hst.sq; have hs3 := hst.q
 refine fn_enter (args := [_, _]) func21 rfl ntmps21 rfl hH (sq (pl (TE_allocC (idV (fun _ => 0)).cells rfl zeroValue35 rfl trivial rfl fun b4 hb4 => (qa rfl (n0 (sq (sq (pl (qm rfl ?_)))))))))
 refine cG rfl call77 (fun w hw => c_stNone s mb m w hst hw.s) ?_
 rintro v1 H2 ⟨rfl, rfl⟩ -
 refine n0 (pn_condF rfl (sk (sq (pn_drawLG [1] [] ((b4, .cells (idV (fun _ => 0)).cells 35 (0, 0)) :: (s, .cells #[.int .i64 m.q, .int .i64 m.sz, .map (some mb)] 69 (0, 0)) :: (mb, mapO keyV en8V m.l m.c) :: (0, .cells (wfV 8 (s8f shaB)).cells 151 (0, 0)) :: (1, .cells (wfV 64 (gtf shaK)).cells 286 (0, 0)) :: HX) ((.op 0 (.op 1 (.op 2 (.fork (.op 3 (.op 4 (.op 5 (.op 6 .nil)))) (.op 5 (.op 3 (.op 4 (.op 6 .nil))))))))) rfl (by kernel_rfl) (by kernel_rfl) (fun a => by simp -failIfUnchanged <;> omega) (TE_join (σ := Nat) (fun q => [(0, .pointer (some ⟨s, 0, none⟩)), (1, bv), (4, .pointer (some ⟨b4, 0, none⟩)), (6, .pointer (some ⟨q, 0, none⟩))]) (fun q => ((q, .cells (en8V (⟨(⟨b.toArray⟩ : ByteArray), (kindM b)⟩ : En8)).cells 137 (0, 0)) :: (b4, .cells (idV (fun _ => 0)).cells 35 (0, 0)) :: (s, .cells #[.int .i64 m.q, .int .i64 m.sz, .map (some mb)] 69 (0, 0)) :: (mb, mapO keyV en8V m.l m.c) :: (0, .cells (wfV 8 (s8f shaB)).cells 151 (0, 0)) :: (1, .cells (wfV 64 (gtf shaK)).cells 286 (0, 0)) :: HX)) (fun q => w.heap.size ≤ q) ?_ ?_)))))
 ·refine qm rfl (qq rfl (RD.str_of_bytes underlying32 underlying9 underlying5 rfl (BytesIn.s (hbb).bytes)) (qm rfl (TE_fork ?_ ?_)))
  ·refine cG rfl call20 (fun w hw => c_obKind bv b ((0, .cells (wfV 8 (s8f shaB)).cells 151 (0, 0)) :: (1, .cells (wfV 64 (gtf shaK)).cells 286 (0, 0)) :: HX) w hbb.s hlb hw.s) ?_
   rintro v3 H4 ⟨rfl, rfl⟩ -
   exact qq rfl (RD.build (v := en8V (⟨(⟨b.toArray⟩ : ByteArray), (kindM b)⟩ : En8)) rfl (fun w => by simp [Instr.build, zeroValue137, runUnderlying137, sizeOf3, sizeOf9, Value.cells, Instr.fill, en8V])) (TE_allocC (en8V (⟨⟨#[]⟩, 0⟩ : En8)).cells rfl zeroValue137 rfl trivial rfl fun b6 hb6 => (TE_putCW 0 _ _ [(b6, .cells (en8V (⟨(⟨b.toArray⟩ : ByteArray), (kindM b)⟩ : En8)).cells 137 (0, 0))] rfl sizeOf137 trivial rfl rfl rfl rfl rfl rfl rfl rfl (.inl hb6) (TE_nil (pn_give b6 hb6 ⟨rfl, rfl, rfl, rfl, trivial⟩ sb))))
  refine TE_allocC (en8V (⟨⟨#[]⟩, 0⟩ : En8)).cells rfl zeroValue137 rfl trivial rfl fun b6 hb6 => (cG rfl call20 (fun w hw => c_obKind bv b ((0, .cells (wfV 8 (s8f shaB)).cells 151 (0, 0)) :: (1, .cells (wfV 64 (gtf shaK)).cells 286 (0, 0)) :: HX) w hbb.s hlb hw.s) ?_)
  rintro v5 H6 ⟨rfl, rfl⟩ -
  exact qq rfl (RD.build (v := en8V (⟨(⟨b.toArray⟩ : ByteArray), (kindM b)⟩ : En8)) rfl (fun w => by simp [Instr.build, zeroValue137, runUnderlying137, sizeOf3, sizeOf9, Value.cells, Instr.fill, en8V])) (TE_putCW 0 _ _ [(b6, .cells (en8V (⟨(⟨b.toArray⟩ : ByteArray), (kindM b)⟩ : En8)).cells 137 (0, 0))] rfl sizeOf137 trivial rfl rfl rfl rfl rfl rfl rfl rfl (.inl hb6) (TE_nil (pn_give b6 hb6 ⟨rfl, rfl, rfl, rfl, trivial⟩ sb)))
 rintro b6 hb6
 refine sq (sq (pl (qq rfl (RD.fieldAddr (o := 1) runUnderlying137 rfl rfl sizeOf3 rfl) (ql rfl (RD.load (i := 0) (v := .int .i64 (kindM b)) isAgg3 rfl rfl rfl) (qq rfl (RD.eql rfl rfl) (n0 (pn_condD rfl (fun hc7 => ?_) (fun hc7 => ?_))))))))
 ·refine sq (pl (qq rfl (RD.build (v := idV (fun _ => 0)) rfl (bd_id0)) (TE_putCW 1 _ _ ((b6, .cells (en8V (⟨(⟨b.toArray⟩ : ByteArray), (kindM b)⟩ : En8)).cells 137 (0, 0)) :: (b4, .cells (idV (fun _ => 0)).cells 35 (0, 0)) :: (s, .cells #[.int .i64 m.q, .int .i64 m.sz, .map (some mb)] 69 (0, 0)) :: (mb, mapO keyV en8V m.l m.c) :: (0, .cells (wfV 8 (s8f shaB)).cells 151 (0, 0)) :: (1, .cells (wfV 64 (gtf shaK)).cells 286 (0, 0)) :: HX) rfl sizeOf35 trivial rfl rfl rfl rfl rfl rfl rfl rfl (.inl hb4) (qa rfl (n0 (rt ?_))))))
  have hpq := put8_0 (m := m) hc7
  exact pn_doneF rfl ⟨idV (fun _ => 0), _, b4, 0, rfl, rfl, load_agg (i := 1) isAgg35 sizeOf35 rfl (Nat.le_of_ble_eq_true rfl) (id_all _), ⟨_, _, rfl, rfl, rfl⟩⟩ ⟨(by rw [hpq] <;> rfl), (show ([(s, .cells #[.int .i64 m.q, .int .i64 m.sz, .map (some mb)] 69 (0, 0)), (mb, mapO keyV en8V m.l m.c)] : Mem) = _ from by rw [hpq] <;> rfl)⟩ sb (fun e he => Or.symm ((ownC (.inr (by simp [keys])) (ownC (.inr (by simp [keys])) own0)) e he))
 ·refine sk (sq (pl (qm rfl (TE_buildSlice (cells := #[bv]) rfl runUnderlying24 sizeOf32 zeroValue32 rfl rfl rfl (by obtain ⟨a0, c0, e0⟩ := (hbb).shape; rw [e0]; kernel_rfl) trivial rfl fun b23 hb23 => (cG rfl call32 (fun w hw => c_hashOf b23 bv b HX w hbb.s hlb hw.s) ?_)))))
  rintro v8 H9 ⟨rfl, rfl⟩ -
  refine TE_allocC (idV (fun _ => 0)).cells rfl zeroValue35 rfl trivial rfl fun b7 hb7 => (TE_putCW 0 _ _ ((b7, .cells (idV (shaF b)).cells 35 (0, 0)) :: (b23, .cells #[bv] 32 (0, 0)) :: (b6, .cells (en8V (⟨(⟨b.toArray⟩ : ByteArray), (kindM b)⟩ : En8)).cells 137 (0, 0)) :: (b4, .cells (idV (fun _ => 0)).cells 35 (0, 0)) :: (s, .cells #[.int .i64 m.q, .int .i64 m.sz, .map (some mb)] 69 (0, 0)) :: (mb, mapO keyV en8V m.l m.c) :: (0, .cells (wfV 8 (s8f shaB)).cells 151 (0, 0)) :: (1, .cells (wfV 64 (gtf shaK)).cells 286 (0, 0)) :: HX) rfl sizeOf35 trivial rfl rfl rfl rfl rfl rfl rfl rfl (.inl hb7) (n0 (sq (dG [3, 4, 5] [] ((b7, .cells (idV (shaF b)).cells 35 (0, 0)) :: (b23, .cells #[bv] 32 (0, 0)) :: (b6, .cells (en8V (⟨(⟨b.toArray⟩ : ByteArray), (kindM b)⟩ : En8)).cells 137 (0, 0)) :: (b4, .cells (idV (fun _ => 0)).cells 35 (0, 0)) :: (s, .cells #[.int .i64 m.q, .int .i64 m.sz, .map (some mb)] 69 (0, 0)) :: (mb, mapO keyV en8V m.l m.c) :: (0, .cells (wfV 8 (s8f shaB)).cells 151 (0, 0)) :: (1, .cells (wfV 64 (gtf shaK)).cells 286 (0, 0)) :: HX) (qm rfl (qn rfl (qq rfl (RD.fieldAddr (o := 2) runUnderlying69 rfl rfl sizeOf67 rfl) (qq rfl (RD.load (i := 4) isAgg67 rfl rfl rfl) (qq rfl (RD.loadA (i := 0) isAgg35 sizeOf35 rfl rfl (Nat.le_of_ble_eq_true rfl) (id_all _)) ?_)))))))))
  refine qq rfl (RD.as (v := .tuple #[en8V (get8 m (k8 b)), .bool (has8 m (k8 b))]) (RD.lookupM2 (i := 5) (ev := en8V) (l := m.l) (a := (k8 b)) underlying67 keyId zeroValue137 rfl (congrArg some (keyV_kOf (shaF_ok _)).symm) rfl) (by rw [lk8] <;> rfl)) (qm rfl (qe rfl (qe rfl (TE_allocC (en8V (⟨⟨#[]⟩, 0⟩ : En8)).cells rfl zeroValue137 rfl trivial rfl fun b8 hb8 => (TE_putCW 0 _ _ [(b8, .cells (en8V (get8 m (k8 b))).cells 137 (0, 0))] rfl sizeOf137 trivial rfl rfl rfl rfl rfl rfl rfl rfl (.inl hb8) (qa rfl (TE_nil (sq (pn_block ?_)))))))))
  refine sq (plG [] ((b8, .cells (en8V (get8 m (k8 b))).cells 137 (0, 0)) :: (b7, .cells (idV (shaF b)).cells 35 (0, 0)) :: (b23, .cells #[bv] 32 (0, 0)) :: (b6, .cells (en8V (⟨(⟨b.toArray⟩ : ByteArray), (kindM b)⟩ : En8)).cells 137 (0, 0)) :: (b4, .cells (idV (fun _ => 0)).cells 35 (0, 0)) :: (s, .cells #[.int .i64 m.q, .int .i64 m.sz, .map (some mb)] 69 (0, 0)) :: (mb, mapO keyV en8V m.l m.c) :: (0, .cells (wfV 8 (s8f shaB)).cells 151 (0, 0)) :: (1, .cells (wfV 64 (gtf shaK)).cells 286 (0, 0)) :: HX) (qm rfl (qm rfl (TE_join (σ := Unit) (fun _ => [(0, .pointer (some ⟨s, 0, none⟩)), (1, bv), (4, .pointer (some ⟨b4, 0, none⟩)), (6, .pointer (some ⟨b6, 0, none⟩)), (7, .pointer (some ⟨b7, 0, none⟩)), (9, .bool (has8 m (k8 b))), (34, .bool ((has8 m (k8 b)) && (!(same_en8 (get8 m (k8 b)) (⟨(⟨b.toArray⟩ : ByteArray), (kindM b)⟩ : En8)))))]) (fun _ => ((b8, .cells (en8V (get8 m (k8 b))).cells 137 (0, 0)) :: (b7, .cells (idV (shaF b)).cells 35 (0, 0)) :: (b23, .cells #[bv] 32 (0, 0)) :: (b6, .cells (en8V (⟨(⟨b.toArray⟩ : ByteArray), (kindM b)⟩ : En8)).cells 137 (0, 0)) :: (b4, .cells (idV (fun _ => 0)).cells 35 (0, 0)) :: (s, .cells #[.int .i64 m.q, .int .i64 m.sz, .map (some mb)] 69 (0, 0)) :: (mb, mapO keyV en8V m.l m.c) :: (0, .cells (wfV 8 (s8f shaB)).cells 151 (0, 0)) :: (1, .cells (wfV 64 (gtf shaK)).cells 286 (0, 0)) :: HX)) (fun _ => True) ?_ ?_))))
  ·refine TE_bool (fun hf10 => ?_) (fun hf10 => ?_)
   ·exact ql rfl (RD.loadA (i := 0) isAgg137 sizeOf137 rfl rfl (Nat.le_of_ble_eq_true rfl) (en8_all _)) (ql rfl (RD.loadA (i := 3) isAgg137 sizeOf137 rfl rfl (Nat.le_of_ble_eq_true rfl) (en8_all _)) (TE_gq rfl rfl rfl rfl (RD.neq_agg eqGuardType137 (eq_en8 (get8 m (k8 b)) (⟨(⟨b.toArray⟩ : ByteArray), (kindM b)⟩ : En8)) rfl rfl) rfl (qT rfl (qa rfl (n0 (pn_give () trivial ⟨rfl, rfl, rfl, rfl, rfl, rfl, congrArg (fun b => some (Value.bool b)) (by first | (simp [hf10]; done) | (simp only [hf10]; rfl) | (simp only [hf10]; simp; done)), trivial⟩ sb))))))
   ·exact qs rfl (qs rfl (qs rfl (qF rfl (qa rfl (n0 (pn_give () trivial ⟨rfl, rfl, rfl, rfl, rfl, rfl, congrArg (fun b => some (Value.bool b)) (by first | (simp [hf10]; done) | (simp only [hf10]; rfl) | (simp only [hf10]; simp; done)), trivial⟩ sb))))))
  rintro _ -
  refine pn_cond rfl (fun hc11 => ?_) (fun hc11 => ?_)
  ·simp only [Bool.and_eq_true, Bool.not_eq_true'] at hc11
   refine sq (pl (qq rfl (RD.build (v := idV (fun _ => 0)) rfl (bd_id0)) (TE_putCW 4 _ _ ((b8, .cells (en8V (get8 m (k8 b))).cells 137 (0, 0)) :: (b7, .cells (idV (shaF b)).cells 35 (0, 0)) :: (b23, .cells #[bv] 32 (0, 0)) :: (b6, .cells (en8V (⟨(⟨b.toArray⟩ : ByteArray), (kindM b)⟩ : En8)).cells 137 (0, 0)) :: (b4, .cells (idV (fun _ => 0)).cells 35 (0, 0)) :: (s, .cells #[.int .i64 m.q, .int .i64 m.sz, .map (some mb)] 69 (0, 0)) :: (mb, mapO keyV en8V m.l m.c) :: (0, .cells (wfV 8 (s8f shaB)).cells 151 (0, 0)) :: (1, .cells (wfV 64 (gtf shaK)).cells 286 (0, 0)) :: HX) rfl sizeOf35 trivial rfl rfl rfl rfl rfl rfl rfl rfl (.inl hb4) (qa rfl (n0 (rt ?_))))))
   have hpq := put8_clash (m := m) hc7 hc11.1 hc11.2
   exact pn_doneF rfl ⟨idV (fun _ => 0), _, b4, 0, rfl, rfl, load_agg (i := 4) isAgg35 sizeOf35 rfl (Nat.le_of_ble_eq_true rfl) (id_all _), ⟨_, _, rfl, rfl, rfl⟩⟩ ⟨(by rw [hpq] <;> rfl), (show ([(s, .cells #[.int .i64 m.q, .int .i64 m.sz, .map (some mb)] 69 (0, 0)), (mb, mapO keyV en8V m.l m.c)] : Mem) = _ from by rw [hpq] <;> rfl)⟩ sb (fun e he => Or.symm ((ownC (.inr (by simp [keys])) (ownC (.inr (by simp [keys])) own0)) e he))
  ·simp only [Bool.and_eq_false_iff, Bool.not_eq_false'] at hc11
   refine sq (pl (qm rfl (qa rfl (n0 (pn_cond rfl (fun hc12 => ?_) (fun hc12 => ?_))))))
   ·refine sq (pl (ql rfl (RD.loadA (i := 1) isAgg35 sizeOf35 rfl rfl (Nat.le_of_ble_eq_true rfl) (id_all _)) (TE_putCW 4 _ _ ((b8, .cells (en8V (get8 m (k8 b))).cells 137 (0, 0)) :: (b7, .cells (idV (shaF b)).cells 35 (0, 0)) :: (b23, .cells #[bv] 32 (0, 0)) :: (b6, .cells (en8V (⟨(⟨b.toArray⟩ : ByteArray), (kindM b)⟩ : En8)).cells 137 (0, 0)) :: (b4, .cells (idV (shaF b)).cells 35 (0, 0)) :: (s, .cells #[.int .i64 m.q, .int .i64 m.sz, .map (some mb)] 69 (0, 0)) :: (mb, mapO keyV en8V m.l m.c) :: (0, .cells (wfV 8 (s8f shaB)).cells 151 (0, 0)) :: (1, .cells (wfV 64 (gtf shaK)).cells 286 (0, 0)) :: HX) rfl sizeOf35 trivial rfl rfl rfl rfl rfl rfl rfl rfl (.inl hb4) (qa rfl (n0 (rt ?_))))))
    have hpq := put8_is' (m := m) hc7 hc11 hc12
    exact pn_doneF rfl ⟨idV (shaF b), _, b4, 0, rfl, rfl, load_agg (i := 4) isAgg35 sizeOf35 rfl (Nat.le_of_ble_eq_true rfl) (id_all _), ⟨_, _, rfl, rfl, rfl⟩⟩ ⟨(by rw [hpq] <;> rfl), (show ([(s, .cells #[.int .i64 m.q, .int .i64 m.sz, .map (some mb)] 69 (0, 0)), (mb, mapO keyV en8V m.l m.c)] : Mem) = _ from by rw [hpq] <;> rfl)⟩ sb (fun e he => Or.symm ((ownC (.inr (by simp [keys])) (ownC (.inr (by simp [keys])) own0)) e he))
   ·refine sq (dG [1, 5, 9] [] ((b8, .cells (en8V (get8 m (k8 b))).cells 137 (0, 0)) :: (b7, .cells (idV (shaF b)).cells 35 (0, 0)) :: (b23, .cells #[bv] 32 (0, 0)) :: (b6, .cells (en8V (⟨(⟨b.toArray⟩ : ByteArray), (kindM b)⟩ : En8)).cells 137 (0, 0)) :: (b4, .cells (idV (fun _ => 0)).cells 35 (0, 0)) :: (s, .cells #[.int .i64 m.q, .int .i64 m.sz, .map (some mb)] 69 (0, 0)) :: (mb, mapO keyV en8V m.l m.c) :: (0, .cells (wfV 8 (s8f shaB)).cells 151 (0, 0)) :: (1, .cells (wfV 64 (gtf shaK)).cells 286 (0, 0)) :: HX) (qm rfl (qq rfl (RD.lenR runUnderlying32 rfl hbb) (qm rfl (qn rfl (qq rfl (RD.fieldAddr (o := 0) runUnderlying69 rfl rfl sizeOf3 rfl) (qq rfl (RD.load (i := 5) isAgg3 rfl rfl rfl) (qm rfl (qn rfl ?_)))))))))
    refine qq rfl (RD.fieldAddr (o := 1) runUnderlying69 rfl rfl sizeOf3 rfl) (qq rfl (RD.load (i := 5) isAgg3 rfl rfl rfl) (qq rfl (RD.subI rfl rfl (by omega) (by omega)) (qq rfl (RD.gtr rfl rfl) (qa rfl (TE_nil (pn_condD rfl (fun hc13 => ?_) (fun hc13 => ?_)))))))
    ·refine sq (plG [] ((b8, .cells (en8V (get8 m (k8 b))).cells 137 (0, 0)) :: (b7, .cells (idV (shaF b)).cells 35 (0, 0)) :: (b23, .cells #[bv] 32 (0, 0)) :: (b6, .cells (en8V (⟨(⟨b.toArray⟩ : ByteArray), (kindM b)⟩ : En8)).cells 137 (0, 0)) :: (b4, .cells (idV (fun _ => 0)).cells 35 (0, 0)) :: (s, .cells #[.int .i64 m.q, .int .i64 m.sz, .map (some mb)] 69 (0, 0)) :: (mb, mapO keyV en8V m.l m.c) :: (0, .cells (wfV 8 (s8f shaB)).cells 151 (0, 0)) :: (1, .cells (wfV 64 (gtf shaK)).cells 286 (0, 0)) :: HX) (qq rfl (RD.build (v := idV (fun _ => 0)) rfl (bd_id0)) (TE_putCW 4 _ _ ((b8, .cells (en8V (get8 m (k8 b))).cells 137 (0, 0)) :: (b7, .cells (idV (shaF b)).cells 35 (0, 0)) :: (b23, .cells #[bv] 32 (0, 0)) :: (b6, .cells (en8V (⟨(⟨b.toArray⟩ : ByteArray), (kindM b)⟩ : En8)).cells 137 (0, 0)) :: (b4, .cells (idV (fun _ => 0)).cells 35 (0, 0)) :: (s, .cells #[.int .i64 m.q, .int .i64 m.sz, .map (some mb)] 69 (0, 0)) :: (mb, mapO keyV en8V m.l m.c) :: (0, .cells (wfV 8 (s8f shaB)).cells 151 (0, 0)) :: (1, .cells (wfV 64 (gtf shaK)).cells 286 (0, 0)) :: HX) rfl sizeOf35 trivial rfl rfl rfl rfl rfl rfl rfl rfl (.inl hb4) (qa rfl (n0 (rt ?_))))))
     have hpq := put8_quota (m := m) hc7 hc12 hc13
     exact pn_doneF rfl ⟨idV (fun _ => 0), _, b4, 0, rfl, rfl, load_agg (i := 4) isAgg35 sizeOf35 rfl (Nat.le_of_ble_eq_true rfl) (id_all _), ⟨_, _, rfl, rfl, rfl⟩⟩ ⟨(by rw [hpq] <;> rfl), (show ([(s, .cells #[.int .i64 m.q, .int .i64 m.sz, .map (some mb)] 69 (0, 0)), (mb, mapO keyV en8V m.l m.c)] : Mem) = _ from by rw [hpq] <;> rfl)⟩ sb (fun e he => Or.symm ((ownC (.inr (by simp [keys])) (ownC (.inr (by simp [keys])) own0)) e he))
    ·refine sk (sq (dG [3, 4, 5] [(mb, mapO keyV en8V m.l m.c)] ((b8, .cells (en8V (get8 m (k8 b))).cells 137 (0, 0)) :: (b7, .cells (idV (shaF b)).cells 35 (0, 0)) :: (b23, .cells #[bv] 32 (0, 0)) :: (b6, .cells (en8V (⟨(⟨b.toArray⟩ : ByteArray), (kindM b)⟩ : En8)).cells 137 (0, 0)) :: (b4, .cells (idV (fun _ => 0)).cells 35 (0, 0)) :: (s, .cells #[.int .i64 m.q, .int .i64 m.sz, .map (some mb)] 69 (0, 0)) :: (0, .cells (wfV 8 (s8f shaB)).cells 151 (0, 0)) :: (1, .cells (wfV 64 (gtf shaK)).cells 286 (0, 0)) :: HX) (qm rfl (qn rfl (qq rfl (RD.fieldAddr (o := 2) runUnderlying69 rfl rfl sizeOf67 rfl) (qq rfl (RD.load (i := 5) isAgg67 rfl rfl rfl) (qq rfl (RD.loadA (i := 1) isAgg35 sizeOf35 rfl rfl (Nat.le_of_ble_eq_true rfl) (id_all _)) (qq rfl (RD.loadA (i := 3) isAgg137 sizeOf137 rfl rfl (Nat.le_of_ble_eq_true rfl) (en8_all _)) (TE_mapUpd (ek := keyV) (ev := en8V) (l := m.l) (a := (k8 b)) (v := (⟨(⟨b.toArray⟩ : ByteArray), (kindM b)⟩ : En8)) 0 [(mb, mapO keyV en8V ((mput (k8 b) (⟨(⟨b.toArray⟩ : ByteArray), (kindM b)⟩ : En8) m.l m.c).1) ((mput (k8 b) (⟨(⟨b.toArray⟩ : ByteArray), (kindM b)⟩ : En8) m.l m.c).2))] rfl trivial underlying67 keyId rfl (congrArg some (keyV_kOf (shaF_ok _)).symm) rfl rfl (.inr (by simp [keys])) rfl ?_)))))))))
     refine TE_nil (sq (plG [5] ((mb, mapO keyV en8V ((mput (k8 b) (⟨(⟨b.toArray⟩ : ByteArray), (kindM b)⟩ : En8) m.l m.c).1) ((mput (k8 b) (⟨(⟨b.toArray⟩ : ByteArray), (kindM b)⟩ : En8) m.l m.c).2)) :: (b8, .cells (en8V (get8 m (k8 b))).cells 137 (0, 0)) :: (b7, .cells (idV (shaF b)).cells 35 (0, 0)) :: (b23, .cells #[bv] 32 (0, 0)) :: (b6, .cells (en8V (⟨(⟨b.toArray⟩ : ByteArray), (kindM b)⟩ : En8)).cells 137 (0, 0)) :: (b4, .cells (idV (fun _ => 0)).cells 35 (0, 0)) :: (s, .cells #[.int .i64 m.q, .int .i64 m.sz, .map (some mb)] 69 (0, 0)) :: (0, .cells (wfV 8 (s8f shaB)).cells 151 (0, 0)) :: (1, .cells (wfV 64 (gtf shaK)).cells 286 (0, 0)) :: HX) (qm rfl (qn rfl (qq rfl (RD.fieldAddr (o := 1) runUnderlying69 rfl rfl sizeOf3 rfl) (ql rfl (RD.load (i := 6) isAgg3 rfl rfl rfl) (qm rfl (qq rfl (RD.lenR runUnderlying32 rfl hbb) (qq rfl (RD.addI rfl rfl (by omega) (by omega)) ?_)))))))))
     refine qn rfl (qq rfl (RD.fieldAddr (o := 1) runUnderlying69 rfl rfl sizeOf3 rfl) (TE_storeC 6 _ _ ((mb, mapO keyV en8V ((mput (k8 b) (⟨(⟨b.toArray⟩ : ByteArray), (kindM b)⟩ : En8) m.l m.c).1) ((mput (k8 b) (⟨(⟨b.toArray⟩ : ByteArray), (kindM b)⟩ : En8) m.l m.c).2)) :: (b8, .cells (en8V (get8 m (k8 b))).cells 137 (0, 0)) :: (b7, .cells (idV (shaF b)).cells 35 (0, 0)) :: (b23, .cells #[bv] 32 (0, 0)) :: (b6, .cells (en8V (⟨(⟨b.toArray⟩ : ByteArray), (kindM b)⟩ : En8)).cells 137 (0, 0)) :: (b4, .cells (idV (fun _ => 0)).cells 35 (0, 0)) :: (s, .cells #[.int .i64 m.q, .int .i64 (m.sz + (b.length : Int)), .map (some mb)] 69 (0, 0)) :: (0, .cells (wfV 8 (s8f shaB)).cells 151 (0, 0)) :: (1, .cells (wfV 64 (gtf shaK)).cells 286 (0, 0)) :: HX) rfl sizeOf3 trivial rfl rfl rfl rfl rfl rfl rfl rfl (.inr (by simp [keys])) (n0 (sq (pl (ql rfl (RD.loadA (i := 2) isAgg35 sizeOf35 rfl rfl (Nat.le_of_ble_eq_true rfl) (id_all _)) (TE_putCW 5 _ _ ((mb, mapO keyV en8V ((mput (k8 b) (⟨(⟨b.toArray⟩ : ByteArray), (kindM b)⟩ : En8) m.l m.c).1) ((mput (k8 b) (⟨(⟨b.toArray⟩ : ByteArray), (kindM b)⟩ : En8) m.l m.c).2)) :: (b8, .cells (en8V (get8 m (k8 b))).cells 137 (0, 0)) :: (b7, .cells (idV (shaF b)).cells 35 (0, 0)) :: (b23, .cells #[bv] 32 (0, 0)) :: (b6, .cells (en8V (⟨(⟨b.toArray⟩ : ByteArray), (kindM b)⟩ : En8)).cells 137 (0, 0)) :: (b4, .cells (idV (shaF b)).cells 35 (0, 0)) :: (s, .cells #[.int .i64 m.q, .int .i64 (m.sz + (b.length : Int)), .map (some mb)] 69 (0, 0)) :: (0, .cells (wfV 8 (s8f shaB)).cells 151 (0, 0)) :: (1, .cells (wfV 64 (gtf shaK)).cells 286 (0, 0)) :: HX) rfl sizeOf35 trivial rfl rfl rfl rfl rfl rfl rfl rfl (.inl hb4) (qa rfl (n0 ?_)))))))))
     refine rt ?_
     have hpq := put8_new (m := m) hc7 hc12 hc13
     exact pn_doneF rfl ⟨idV (shaF b), _, b4, 0, rfl, rfl, load_agg (i := 5) isAgg35 sizeOf35 rfl (Nat.le_of_ble_eq_true rfl) (id_all _), ⟨_, _, rfl, rfl, rfl⟩⟩ ⟨(by rw [hpq] <;> rfl), (show ([(s, .cells #[.int .i64 m.q, .int .i64 (m.sz + (b.length : Int)), .map (some mb)] 69 (0, 0)), (mb, mapO keyV en8V ((mput (k8 b) (⟨(⟨b.toArray⟩ : ByteArray), (kindM b)⟩ : En8) m.l m.c).1) ((mput (k8 b) (⟨(⟨b.toArray⟩ : ByteArray), (kindM b)⟩ : En8) m.l m.c).2))] : Mem) = _ from by rw [hpq] <;> rfl)⟩ sb (fun e he => Or.symm ((ownC (.inr (by simp [keys])) (ownC (.inr (by simp [keys])) own0)) e he))
theorem st0_ok {q : Int} (h : 0 ≤ q ∧ q ≤ 1073741824) : StOk ⟨q, 0, [], 0⟩ := ⟨MOk.nil 0, Int.le_refl _, h.1, h.2, Nat.zero_le _, fun e he => nomatch he⟩

theorem c_stNew (q : Int) (w : World) (hH : Hp [] w) : Calls Tryz.prog 19 #[.int .i64 q] w (Ret w [] fun v H1 => ((q < 0 ∨ 1073741824 < q) ∧ v = .tuple #[.pointer none, .int .i64 2] ∧ H1 = []) ∨ ((0 ≤ q ∧ q ≤ 1073741824) ∧ ∃ s mb, v = .tuple #[.pointer (some ⟨s, 0, none⟩), .int .i64 0] ∧ H1 = [(s, .cells #[.int .i64 (⟨q, 0, [], 0⟩ : St8).q, .int .i64 (⟨q, 0, [], 0⟩ : St8).sz, .map (some mb)] 69 (0, 0)), (mb, mapO keyV en8V (⟨q, 0, [], 0⟩ : St8).l (⟨q, 0, [], 0⟩ : St8).c)])) := by
 refine fn_enter (args := [_]) func19 rfl ntmps19 rfl hH (sq (pl (qa rfl (qa rfl (n0 (sq (sq (pl (qm rfl ?_)))))))))
 refine qq rfl (RD.lss rfl rfl) (qm rfl (TE_join (σ := Unit) (fun _ => [(0, .int .i64 q), (9, .bool ((decide (q < 0)) || (decide (1073741824 < q))))]) (fun _ => []) (fun _ => True) ?_ ?_))
 ·refine TE_dec (fun hf1 => ?_) (fun hf1 => ?_)
  ·exact qs rfl (qs rfl (qT rfl (n0 (pn_give () trivial ⟨rfl, congrArg (fun b => some (Value.bool b)) (by first | (simp [hf1]; done) | (simp only [decide_eq_true hf1]; rfl) | (simp only [decide_eq_true hf1]; simp; done)), trivial⟩ sb))))
  ·exact qg rfl (TE_gq rfl rfl rfl rfl (RD.gtr rfl rfl) rfl (qF rfl (n0 (pn_give () trivial ⟨rfl, congrArg (fun b => some (Value.bool b)) (by first | (simp [hf1]; done) | (simp only [decide_eq_false hf1]; rfl) | (simp only [decide_eq_false hf1]; simp; done)), trivial⟩ sb))))
 rintro _ -
 refine pn_cond rfl (fun hc2 => ?_) (fun hc2 => ?_)
 ·simp only [Bool.or_eq_true, decide_eq_true_eq] at hc2
  exact sq (pl (qa rfl (qa rfl (n0 (rt (pn_doneS [] rfl rfl (.inl ⟨hc2, rfl, rfl⟩) (fun _ => Nat.zero_le _) (fun _ he => nomatch he)))))))
 ·simp only [Bool.or_eq_false_iff, decide_eq_false_iff_not] at hc2
  refine sk (sq (pl (qm rfl (TE_makeMap keyV en8V rfl trivial rfl fun b11 hb11 => (qq rfl (RD.build (v := .agg #[.int .i64 q, .int .i64 0, .map (some b11)]) rfl (fun w => by simp [Instr.build, zeroValue69, runUnderlying69, sizeOf3, sizeOf3, sizeOf67, Value.cells, Instr.fill])) (TE_boxC #[.int .i64 q, .int .i64 0, .map (some b11)] rfl rfl rfl trivial rfl fun b13 hb13 => (qa rfl (qa rfl (n0 ?_)))))))))
  exact rt (dS [(b13, .cells #[.int .i64 q, .int .i64 0, .map (some b11)] 69 (0, 0)), (b11, mapO keyV en8V ([] : List (ME Key En8)) 0)] rfl rfl (.inr ⟨(by omega), b13, b11, rfl, rfl⟩) (ownC (.inl hb13) (ownC (.inl hb11) own0)))
end Go.Proofs.YtcmnmigcalibdaaGreatDoor

namespace Go.Proofs.YtcmnmigcalibdaaGreatDoor
open Go.Proofs.Tryz
open Go Go.Mv
set_option maxRecDepth 8000
theorem BsOk.s {H H' : Mem} {l : List BSl} (h : BsOk H l) (hc : ∀ a, cnt a H ≤ cnt a H' := by intro a; simp -failIfUnchanged <;> omega) : BsOk H' l := h.mono fun _ hw => hw.sp hc
theorem elBs : ElI Tryz.prog 32 1 24 (.slice none 0 0) := by unfold ElI; kernel_rfl
/-- A call of the statements on stores: its kind, its texts (where these lie: a, c). -/
structure OpM where
  k : Int
  a : Option Addr
  c : Nat
  l : List BSl
def OpM.v (x : OpM) : Value := .slice x.a x.l.length x.c
def opC (x : OpM) : List Value := [.int .i64 x.k, .slice x.a x.l.length x.c]
theorem opC_len (x : OpM) : (opC x).length = 2 := rfl
instance : Inhabited OpM := ⟨⟨0, none, 0, []⟩⟩
def OpsOk (H : Mem) (l : List OpM) : Prop := ∀ x ∈ l, Rdx 1 bsC H x.v x.l ∧ BsOk H x.l
def greatOps (l : List OpM) : Bool := decide (40 < l.length) || l.any fun o => decide (8 < o.l.length) || o.l.any fun x => decide (4100 < x.b.length)
theorem greatOps_1 {l : List OpM} {i : Nat} (hi : i < l.length) (h : 8 < ((gt l i).l.length : Int)) : greatOps l = true := by
  simp only [greatOps, Bool.or_eq_true, List.any_eq_true, decide_eq_true_eq]
  exact .inr ⟨_, gt_mem hi, .inl (by omega)⟩
theorem greatOps_2 {l : List OpM} {i j : Nat} (hi : i < l.length) (hj : j < (gt l i).l.length) (h : 4100 < ((gt (gt l i).l j).b.length : Int)) : greatOps l = true := by
  simp only [greatOps, Bool.or_eq_true, List.any_eq_true, decide_eq_true_eq]
  exact .inr ⟨_, gt_mem hi, .inr ⟨_, gt_mem hj, by omega⟩⟩
theorem all_gt {α : Type} [Inhabited α] {l : List α} {Q : α → Prop} (h : ∀ j, j < l.length → Q (gt l j)) : ∀ x ∈ l, Q x := fun x hx => by
  obtain ⟨j, hj⟩ := List.getElem?_of_mem hx
  have hl := (List.getElem?_eq_some_iff.1 hj).1
  rw [← gt_eq hj]; exact h j hl
theorem greatOps_3 {l : List OpM} (h : ∀ j, j < l.length → (gt l j).l.length ≤ 8 ∧ ∀ x ∈ (gt l j).l, x.b.length ≤ 4100) : decide (40 < (l.length : Int)) = greatOps l := by
  have h2 : (l.any fun o => decide (8 < o.l.length) || o.l.any fun x => decide (4100 < x.b.length)) = false := by
    rw [List.any_eq_false]
    intro o ho
    have h3 := all_gt (Q := fun o : OpM => o.l.length ≤ 8 ∧ ∀ x ∈ o.l, x.b.length ≤ 4100) h o ho
    simp only [Bool.or_eq_true, decide_eq_true_eq, List.any_eq_true, not_or, not_exists, not_and]
    exact ⟨by omega, fun x hx => by have := h3.2 x hx; omega⟩
  rw [greatOps, h2, Bool.or_false]
  exact decide_eq_decide.2 (by omega)
theorem greatOps_ok {l : List OpM} (h : greatOps l = false) : l.length ≤ 40 ∧ ∀ o ∈ l, o.l.length ≤ 8 ∧ ∀ x ∈ o.l, x.b.length ≤ 4100 := by
  simp only [greatOps, Bool.or_eq_false_iff, decide_eq_false_iff_not, List.any_eq_false, Bool.or_eq_true, decide_eq_true_eq, List.any_eq_true, not_or, not_exists, not_and] at h
  exact ⟨by omega, fun o ho => ⟨by have := (h.2 o ho).1; omega, fun x hx => by have := (h.2 o ho).2 x hx; omega⟩⟩
def textsB (l : List OpM) : List BSl := l.flatMap (·.l)
theorem textsB_ok {H : Mem} {l : List OpM} (h : OpsOk H l) : BsOk H (textsB l) := fun x hx => by
  simp only [textsB, List.mem_flatMap] at hx
  obtain ⟨o, ho, hx⟩ := hx
  exact (h o ho).2 x hx
theorem textsB_next {l : List OpM} {i : Nat} (hi : i < l.length) : textsB (l.take i) ++ (gt l i).l = textsB (l.take (i + 1)) := by
  rw [take_succ_of (gt_some hi)]; simp [textsB]
theorem flat_le {l : List OpM} {n : Nat} (h : ∀ o ∈ l, o.l.length ≤ n) : (textsB l).length ≤ n * l.length := by
  induction l with
  | nil => exact Nat.zero_le _
  | cons o l ih =>
    have h1 := ih fun x hx => h x (List.mem_cons_of_mem _ hx)
    have h2 := h o List.mem_cons_self
    simp only [textsB, List.flatMap_cons, List.length_append, List.length_cons] at h1 ⊢
    rw [Nat.mul_add]; omega
theorem textsB_le {l : List OpM} (h : greatOps l = false) : (textsB l).length ≤ 320 := by
  have h1 := greatOps_ok h
  have h2 := flat_le (n := 8) fun o ho => (h1.2 o ho).1
  omega
theorem textsB_b {l : List OpM} (h : greatOps l = false) : ∀ x ∈ textsB l, x.b.length ≤ 4100 := fun x hx => by
  simp only [textsB, List.mem_flatMap] at hx
  obtain ⟨o, ho, hx⟩ := hx
  exact ((greatOps_ok h).2 o ho).2 x hx
/-- Two unlike texts with one id. -/
def clashAt (l : List BSl) (i k : Nat) : Bool := (!decide ((gt l i).b = (gt l k).b)) && sameN 32 (shaF (gt l i).b) (shaF (gt l k).b)
def clashB (l : List BSl) : Bool := (List.range l.length).any fun i => (List.range i).any fun k => clashAt l i k
theorem clash_T {l : List BSl} {i k : Nat} (hi : i < l.length) (hk : k < i) (h : clashAt l i k = true) : clashB l = true :=
  List.any_eq_true.2 ⟨i, List.mem_range.2 hi, List.any_eq_true.2 ⟨k, List.mem_range.2 hk, h⟩⟩
theorem clash_F {l : List BSl} (h : ∀ i k, i < l.length → k < i → clashAt l i k = false) : clashB l = false := by
  refine List.any_eq_false.2 fun i hi => ?_
  rw [Bool.not_eq_true]
  refine List.any_eq_false.2 fun k hk => ?_
  rw [Bool.not_eq_true]
  exact h i k (List.mem_range.1 hi) (List.mem_range.1 hk)
theorem clash_at {l : List BSl} (h : clashB l = false) {i k : Nat} (hi : i < l.length) (hk : k < i) : clashAt l i k = false := by
  have h1 := List.any_eq_false.1 h i (List.mem_range.2 hi)
  rw [Bool.not_eq_true] at h1
  have h2 := List.any_eq_false.1 h1 k (List.mem_range.2 hk)
  rwa [Bool.not_eq_true] at h2
/-- No two unlike texts among these have one id. -/
theorem no_clash {l : List BSl} (h : clashB l = false) {x y : BSl} (hx : x ∈ l) (hy : y ∈ l) (hs : k8 x.b = k8 y.b) : x.b = y.b := by
  obtain ⟨i, hi⟩ := List.getElem?_of_mem hx
  obtain ⟨k, hk⟩ := List.getElem?_of_mem hy
  have li := (List.getElem?_eq_some_iff.1 hi).1
  have lk := (List.getElem?_eq_some_iff.1 hk).1
  have hsm : sameN 32 (shaF x.b) (shaF y.b) = true := sameN_iff.2 (kOf_inj (shaF_ok _) (shaF_ok _) hs)
  have hsm2 : sameN 32 (shaF y.b) (shaF x.b) = true := sameN_iff.2 (kOf_inj (shaF_ok _) (shaF_ok _) hs.symm)
  have key : ∀ {i k : Nat} {x y : BSl}, l[i]? = some x → l[k]? = some y → i < l.length → k < i → sameN 32 (shaF x.b) (shaF y.b) = true → x.b = y.b := fun hi hk li lki hs => by
    have h1 := clash_at h li lki
    rw [clashAt, gt_eq hi, gt_eq hk, hs, Bool.and_true] at h1
    simpa using h1
  rcases Nat.lt_trichotomy i k with h1 | h1 | h1
  · exact (key hk hi lk h1 hsm2).symm
  · subst h1; rw [hi] at hk; rw [Option.some.inj hk]
  · exact key hi hk li h1 hsm

theorem c_great8 (lv : Value) (l : List OpM) (HX : Mem) (w : World) (hbl : Rdx 2 (opC) HX lv l) (hbkl : OpsOk HX l) (hll : l.length ≤ 9223372036854775807 ∧ ∀ o ∈ l, o.l.length ≤ 9223372036854775807) (hH : Hp HX w) : Calls Tryz.prog 17 #[lv] w (Ret w [] fun v H1 => v = .bool (greatOps l) ∧ H1 = []) := by
 have hl1 := hll.1
 refine fn_enter (args := [_]) func17 rfl ntmps17 rfl hH (sq (pl (qa rfl (n0 (sq (sq (pn_plain [1] rfl (qm rfl (qq rfl (RD.lenX runUnderlying22 rfl hbl) ?_)))))))))
 refine qm rfl (n0 (pn_block (lpS (σ := Nat) (fun q => [(0, lv), (7, .int .i64 (l.length : Int)), (8, .int .i64 (q : Int))]) (fun q => HX) (fun q => (q ≤ l.length) ∧ (∀ j, j < q → (gt l j).l.length ≤ 8 ∧ ∀ x ∈ (gt l j).l, x.b.length ≤ 4100)) (fun q => l.length - q) 0 ⟨(by omega), (fun j hj => absurd hj (Nat.not_lt_zero _))⟩ ⟨rfl, rfl, rfl, trivial⟩ ?_)))
 rintro i ⟨hi, hall⟩
 refine sq (pl (qq rfl (RD.lss rfl rfl) (n0 (sq (pn_condD rfl (fun hc1 => ?_) (fun hc1 => ?_))))))
 ·refine sk (sq (pn_block (sq (pl (qm rfl (qa rfl (n0 (sq (sq ?_)))))))))
  refine pn_plain [5] rfl (qm rfl (qm rfl (qq rfl (RD.idxR (i := i) (o := (i * 2 + 0)) runUnderlying22 sizeOf52 rfl hbl rfl rfl (by omega) (by rfl)) (qq rfl (RD.fldR (i := i) (o' := (i * 2 + 1)) runUnderlying52 rfl (by rfl) sizeOf24 rfl hbl (by omega)) (ql rfl (RD.ldR (i := i) (j := 1) (u := (OpM.v (gt l i))) isAgg24 rfl hbl (gt_some (by omega)) (by rfl) rfl sb) (qq rfl (RD.lenX runUnderlying24 rfl (hbkl (gt l i) (gt_mem (by omega))).1) (qq rfl (RD.gtr rfl rfl) (n0 (pn_condD rfl (fun hc2 => ?_) (fun hc2 => ?_))))))))))
  ·exact sq (plG [] [] (qa rfl (n0 (rt (pn_doneS [] rfl rfl ⟨(congrArg Value.bool (greatOps_1 (i := i) (by omega) hc2).symm), rfl⟩ (fun _ => Nat.zero_le _) (fun _ he => nomatch he))))))
  ·refine sk (sq (pn_plain [5] rfl (qm rfl (qm rfl (qq rfl (RD.idxR (i := i) (o := (i * 2 + 0)) runUnderlying22 sizeOf52 rfl hbl rfl rfl (by omega) (by rfl)) (qq rfl (RD.fldR (i := i) (o' := (i * 2 + 1)) runUnderlying52 rfl (by rfl) sizeOf24 rfl hbl (by omega)) (ql rfl (RD.ldR (i := i) (j := 1) (u := (OpM.v (gt l i))) isAgg24 rfl hbl (gt_some (by omega)) (by rfl) rfl sb) (qq rfl (RD.lenX runUnderlying24 rfl (hbkl (gt l i) (gt_mem (by omega))).1) (qm rfl ?_)))))))))
   refine n0 (pn_block ?_)
   have hl2 := hll.2 _ (gt_mem (l := l) (i := i) (by omega))
   refine lpS (σ := Nat) (fun q => [(0, lv), (7, .int .i64 (l.length : Int)), (8, .int .i64 (i : Int)), (22, (OpM.v (gt l i))), (23, .int .i64 (((gt l i).l).length : Int)), (24, .int .i64 (q : Int))]) (fun q => HX) (fun q => (q ≤ (gt l i).l.length) ∧ (∀ j, j < q → (gt (gt l i).l j).b.length ≤ 4100)) (fun q => (gt l i).l.length - q) 0 ⟨(by omega), (fun j hj => absurd hj (Nat.not_lt_zero _))⟩ ⟨rfl, rfl, rfl, rfl, rfl, rfl, trivial⟩ ?_
   rintro i1 ⟨hi1, hin⟩
   refine sq (pl (qq rfl (RD.lss rfl rfl) (n0 (sq (pn_condD rfl (fun hc3 => ?_) (fun hc3 => ?_))))))
   ·refine sk (sq (pn_block (sq (pl (qq rfl (RD.idxR (i := i1) (o := (i1 * 1 + 0)) runUnderlying24 sizeOf32 rfl (hbkl (gt l i) (gt_mem (by omega))).1 rfl rfl (by omega) (by rfl)) (ql rfl (RD.ldR (i := i1) (j := 0) (u := (BSl.v (gt ((gt l i).l) i1))) isAgg32 rfl (hbkl (gt l i) (gt_mem (by omega))).1 (gt_some (by omega)) (by rfl) rfl sb) (qa rfl (n0 (sq ?_)))))))))
    refine pn_plain [1] rfl (qm rfl (qq rfl (RD.lenR runUnderlying32 rfl ((hbkl (gt l i) (gt_mem (by omega))).2 (gt ((gt l i).l) i1) (gt_mem (by omega)))) (qq rfl (RD.gtr rfl rfl) (n0 (pn_condD rfl (fun hc4 => ?_) (fun hc4 => ?_))))))
    ·exact sq (plG [] [] (qa rfl (n0 (rt (pn_doneS [] rfl rfl ⟨(congrArg Value.bool (greatOps_2 (i := i) (j := i1) (by omega) (by omega) hc4).symm), rfl⟩ (fun _ => Nat.zero_le _) (fun _ he => nomatch he))))))
    ·exact sk (pl (qq rfl (RD.addI rfl rfl (by omega) (by omega)) (qm rfl (n0 (agS (i1 + 1) ⟨(by omega), (fun j hj => if h : j = i1 then by subst h; omega else hin j (by omega))⟩ (by omega) ⟨rfl, rfl, rfl, rfl, rfl, rfl, trivial⟩)))))
   ·exact xt (pl (qq rfl (RD.addI rfl rfl (by omega) (by omega)) (qm rfl (n0 (agS (i + 1) ⟨(by omega), (fun j hj => (by rcases Nat.lt_or_ge j i with h | h; exact hall j h; obtain rfl : j = i := (by omega); exact ⟨by omega, all_gt fun j hj => hin j (by omega)⟩))⟩ (by omega) ⟨rfl, rfl, rfl, trivial⟩)))))
 ·exact xt (sq (pn_plain [1] rfl (qm rfl (qq rfl (RD.lenX runUnderlying22 rfl hbl) (qq rfl (RD.gtr rfl rfl) (qa rfl (n0 (rt (pn_doneS [] rfl rfl ⟨(congrArg Value.bool (greatOps_3 fun j hj => hall j (by omega))), rfl⟩ (fun _ => Nat.zero_le _) (fun _ he => nomatch he))))))))))
end Go.Proofs.YtcmnmigcalibdaaGreatDoor
