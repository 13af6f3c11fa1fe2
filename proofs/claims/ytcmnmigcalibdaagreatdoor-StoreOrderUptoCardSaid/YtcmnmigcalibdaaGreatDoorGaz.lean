import Derived.Test.YtcmnmigcalibdaaGreatDoorGay
namespace Go.Proofs.YtcmnmigcalibdaaGreatDoor
open Go.Proofs.Tryz
open Go Go.Mv
set_option maxRecDepth 8000
section
variable {κ β : Type} {l es : List (ME κ β)} {e : ME κ β}
theorem seen_sub (h : ∀ e ∈ es, e ∈ l) (he : e ∈ l) : ∀ x ∈ es ++ [e], x ∈ l := fun x hx => by
  rcases List.mem_append.1 hx with hx | hx
  · exact h x hx
  · simp only [List.mem_cons, List.not_mem_nil, or_false] at hx; subst hx; exact he
theorem seen_nd (h : (es.map (·.n)).Nodup) (hn : e.n ∉ (es.map (·.n)).toArray) : ((es ++ [e]).map (·.n)).Nodup := by
  rw [List.map_append, List.nodup_append]
  refine ⟨h, by simp, fun a ha b hb => ?_⟩
  simp only [List.map_cons, List.map_nil, List.mem_cons, List.not_mem_nil, or_false] at hb
  subst hb
  intro hab; subst hab
  exact hn (by simpa using ha)
theorem seen_lt (hs : ∀ e ∈ es, e ∈ l) (h : (es.map (·.n)).Nodup) (he : e ∈ l) (hn : e.n ∉ (es.map (·.n)).toArray) : es.length < l.length := by
  have h1 := nodup_le (seen_nd h hn) (l := l.map (·.n)) (fun x hx => by
    obtain ⟨y, hy, rfl⟩ := List.mem_map.1 hx
    exact List.mem_map.2 ⟨y, seen_sub hs he y hy, rfl⟩)
  simp only [List.length_map, List.length_append, List.length_cons, List.length_nil] at h1
  omega
theorem seen_le (hs : ∀ e ∈ es, e ∈ l) (h : (es.map (·.n)).Nodup) : es.length ≤ l.length := by
  have h1 := nodup_le h (l := l.map (·.n)) (fun x hx => by
    obtain ⟨y, hy, rfl⟩ := List.mem_map.1 hx
    exact List.mem_map.2 ⟨y, hs y hy, rfl⟩)
  simpa using h1
/-- All were seen. -/
theorem seen_all (hns : l.Pairwise fun a b => a.n ≠ b.n) (hs : ∀ e ∈ es, e ∈ l) (ha : ∀ e ∈ l, e.n ∈ (es.map (·.n)).toArray) : ∀ e, e ∈ es ↔ e ∈ l := fun e => by
  refine ⟨hs e, fun he => ?_⟩
  have h1 := ha e he
  simp only [List.mem_toArray, List.mem_map] at h1
  obtain ⟨y, hy, hyn⟩ := h1
  have hyl := hs y hy
  obtain ⟨i, hi⟩ := List.getElem?_of_mem he
  obtain ⟨j, hj⟩ := List.getElem?_of_mem hyl
  have li := (List.getElem?_eq_some_iff.1 hi).1
  have lj := (List.getElem?_eq_some_iff.1 hj).1
  rw [List.pairwise_iff_getElem] at hns
  rw [List.getElem?_eq_getElem li] at hi
  rw [List.getElem?_eq_getElem lj] at hj
  rcases Nat.lt_trichotomy i j with h | h | h
  · exact absurd (by rw [Option.some.inj hi, Option.some.inj hj, hyn]) (hns i j li lj h)
  · subst h; rw [← Option.some.inj hi, Option.some.inj hj]; exact hy
  · exact absurd (by rw [Option.some.inj hi, Option.some.inj hj, hyn]) (hns j i lj li h)
end
def idOf8 (e : ME Key En8) : Nat → Int := tipOf e.k.1
def ids8 (m : St8) : List (Nat → Int) := m.l.map idOf8
theorem idOf8_ok (e : ME Key En8) : IdOk (idOf8 e) := tip_ok _
theorem idOf8_can (e : ME Key En8) : IdCan (idOf8 e) := fun i hi => by
  show (((e.k.1.getD i 0).toNat : Int)) = 0
  rw [List.getD_eq_getElem?_getD, List.getElem?_eq_none (by rw [e.k.2]; exact hi)]; rfl
theorem map_next8 {es : List (ME Key En8)} {e : ME Key En8} : es.map idOf8 ++ [tipOf e.k.1] = (es ++ [e]).map idOf8 := by simp [idOf8]

theorem ids_congr {m : St8} {es : List (ME Key En8)} (h : ∀ e, e ∈ es ↔ e ∈ m.l) (x : Nat → Int) : x ∈ es.map idOf8 ↔ x ∈ ids8 m := by
  simp only [ids8, List.mem_map, h]
theorem ids8_ok (es : List (ME Key En8)) : ∀ x ∈ es.map idOf8, IdOk x := fun x hx => by
  obtain ⟨e, _, rfl⟩ := List.mem_map.1 hx; exact idOf8_ok e
theorem ids8_can (es : List (ME Key En8)) : ∀ x ∈ es.map idOf8, IdCan x := fun x hx => by
  obtain ⟨e, _, rfl⟩ := List.mem_map.1 hx; exact idOf8_can e

theorem c_stIDs (s : Nat) (mb : Nat) (m : St8) (w : World) (hst : StOk m) (hH : Hp [(s, .cells #[.int .i64 m.q, .int .i64 m.sz, .map (some mb)] 69 (0, 0)), (mb, mapO keyV en8V m.l m.c)] w) : Calls Tryz.prog 24 #[.pointer (some ⟨s, 0, none⟩)] w (Ret w [] fun v H1 => ∃ ts st', SetOf (ids8 m) ts ∧ BldOk 32 (idC) ts st' ∧ v = bldVx ts st' ∧ H1 = bldMx 35 (idC) ts st') := by
 refine fn_enter (args := [_]) func24 rfl ntmps24 rfl hH (sq (pl (qa rfl (n0 (sq (sq (pl (qm rfl (cG rfl call77 (fun w hw => c_stNone s mb m w hst hw.s) ?_)))))))))
 rintro v1 H2 ⟨rfl, rfl⟩ -
 refine n0 (pn_condF rfl (sk (sq (pl (qa rfl (n0 (sq (sq (pl ?_)))))))))
 refine qm rfl (qn rfl (qq rfl (RD.fieldAddr (o := 2) runUnderlying69 rfl rfl sizeOf67 rfl) (ql rfl (RD.load (i := 0) isAgg67 rfl rfl rfl) (TE_rangeM (ek := keyV) (ev := en8V) (l := m.l) 1 rfl underlying67 rfl rfl trivial rfl fun b11 hb11 => (n0 (pn_block (lpS (σ := (List (ME Key En8)) × SnkS) (fun q => [(11, .pointer (some ⟨b11, 0, none⟩)), (3, bldVx (q.1.map idOf8) q.2)]) (fun q => ((b11, .mapIter (some mb) m.c (q.1.map (·.n)).toArray m.c) :: (s, .cells #[.int .i64 m.q, .int .i64 m.sz, .map (some mb)] 69 (0, 0)) :: (mb, mapO keyV en8V m.l m.c) :: (bldMx 35 idC (q.1.map idOf8) q.2))) (fun q => (∀ e ∈ q.1, e ∈ m.l) ∧ ((q.1.map (·.n)).Nodup) ∧ (BldOk 32 idC (q.1.map idOf8) q.2) ∧ (∀ e ∈ bldMx 35 idC (q.1.map idOf8) q.2, w.heap.size ≤ e.1 ∨ e.1 ∈ [])) (fun q => m.l.length - q.1.length) ([], none) ⟨(fun e h => nomatch h), List.nodup_nil, BldOk.nil, (by intro e he; cases he)⟩ ⟨rfl, rfl, trivial⟩ ?_)))))))
 rintro ⟨es, st3⟩ ⟨hsub, hndp, hbost3, hXst3⟩
 dsimp only at hsub hndp hbost3 hXst3 ⊢
 have hRst3 := hbost3.rdx (u := 35) idC_len
 have hsl := seen_le hsub hndp
 have hmn := hst.n
 refine sq (pl (TE_nextM (ek := keyV) (ev := en8V) (l := m.l) (seen := (es.map (·.n)).toArray) (i := 0) (j := 2) rfl rfl trivial rfl rfl rfl (hst.ok).lt (Nat.le_refl _) (.inl hb11) (fun hall6 => ?_) (fun e3 he4 hns5 => ?_)))
 ·refine qe rfl (n0 (sq (pn_condF rfl (xt (sq (pl (qm rfl (cG rfl call35 (fun w hw => c_hashSet (bldMx 35 idC (es.map idOf8) st3) (bldVx (es.map idOf8) st3) (es.map idOf8) w hRst3.s (ids8_can es) (ids8_ok es) (by simp; omega) hw.s) ?_))))))))
  rintro v13 H14 ⟨ts7, st9, hset8, hbo10, rfl, rfl⟩ hX11
  have hRD12 := hbo10.rdx (u := 35) idC_len
  exact tsp ((b11, .mapIter (some mb) m.c (es.map (·.n)).toArray m.c) :: (s, .cells #[.int .i64 m.q, .int .i64 m.sz, .map (some mb)] 69 (0, 0)) :: (mb, mapO keyV en8V m.l m.c) :: ((bldMx 35 (idC) ts7 st9) ++ (bldMx 35 (idC) (es.map idOf8) st3))) (qa rfl (n0 (rt (dS (bldMx 35 idC ts7 st9) rfl rfl ⟨_, st9, (hset8.congr (ids_congr (seen_all hst.ok.ns hsub hall6))), hbo10, rfl, rfl⟩ (ownN hX11)))))
 ·refine qe rfl (n0 (sq (pn_condT rfl (sk (pn_block (sq (pl (ql rfl (RD.entryM (ek := keyV) (ev := en8V) (l := m.l) (e := e3) (i := 0) (j := 2) rfl rfl rfl hst.ok he4) (qe rfl ?_)))))))))
  refine TE_allocC (idV (fun _ => 0)).cells rfl zeroValue35 rfl trivial rfl fun b4 hb4 => (TE_putCW 0 _ _ ((b4, .cells (idV (tipOf e3.k.1)).cells 35 (0, 0)) :: (b11, .mapIter (some mb) m.c ((es.map (·.n)).toArray.push e3.n) m.c) :: (s, .cells #[.int .i64 m.q, .int .i64 m.sz, .map (some mb)] 69 (0, 0)) :: (mb, mapO keyV en8V m.l m.c) :: (bldMx 35 idC (es.map idOf8) st3)) rfl sizeOf35 trivial rfl rfl rfl rfl rfl rfl rfl rfl (.inl hb4) (n0 (pl (qm rfl (ql rfl (RD.loadA (i := 0) isAgg35 sizeOf35 rfl rfl (Nat.le_of_ble_eq_true rfl) (id_all _)) (TE_buildSlice (cells := (cat idC [(tipOf e3.k.1)] ++ []).toArray) rfl runUnderlying41 sizeOf35 zeroValue35 rfl rfl rfl (by kernel_rfl) trivial rfl fun b18 hb18 => (tsp ((bldMx 35 (idC) (es.map idOf8) st3) ++ [(b18, .cells (cat idC [(tipOf e3.k.1)] ++ []).toArray 35 (0, 0)), (b4, .cells (idV (tipOf e3.k.1)).cells 35 (0, 0)), (b11, .mapIter (some mb) m.c ((es.map (·.n)).toArray.push e3.n) m.c), (s, .cells #[.int .i64 m.q, .int .i64 m.sz, .map (some mb)] 69 (0, 0)), (mb, mapO keyV en8V m.l m.c)]) (TE_appendX (st := st3) (l := (es.map idOf8)) (ys := [(tipOf e3.k.1)]) [(b18, .cells (cat idC [(tipOf e3.k.1)] ++ []).toArray 35 (0, 0)), (b4, .cells (idV (tipOf e3.k.1)).cells 35 (0, 0)), (b11, .mapIter (some mb) m.c ((es.map (·.n)).toArray.push e3.n) m.c), (s, .cells #[.int .i64 m.q, .int .i64 m.sz, .map (some mb)] 69 (0, 0)), (mb, mapO keyV en8V m.l m.c)] idC_len idC_one rfl rfl rfl rfl trivial rfl underlying41 elId rfl rfl rfl hbost3 (Rdx.blk (enc := idC) (H := [(b18, .cells (cat idC [(tipOf e3.k.1)] ++ []).toArray 35 (0, 0))]) (xs := [(tipOf e3.k.1)]) (n := 1) (i := 0) (tl := []) (c := 1) idC_len rfl rfl (Nat.le_refl _)) sb (by simp; omega) rfl hXst3 ?_))))))))
  intro st15 hbo16 hX17 _
  have hR19 := hbo16.rdx (u := 35) idC_len
  refine tsp ((b18, .cells (cat idC [(tipOf e3.k.1)] ++ []).toArray 35 (0, 0)) :: (b4, .cells (idV (tipOf e3.k.1)).cells 35 (0, 0)) :: (b11, .mapIter (some mb) m.c ((es.map (·.n)).toArray.push e3.n) m.c) :: (s, .cells #[.int .i64 m.q, .int .i64 m.sz, .map (some mb)] 69 (0, 0)) :: (mb, mapO keyV en8V m.l m.c) :: (bldMx 35 (idC) ((es.map idOf8) ++ [(tipOf e3.k.1)]) st15)) (qa rfl (n0 ?_))
  have he20 : (es.map (·.n)).toArray.push e3.n = (((es ++ [e3])).map (·.n)).toArray := by simp
  refine pn_sp ((b18, .cells (cat idC [(tipOf e3.k.1)] ++ []).toArray 35 (0, 0)) :: (b4, .cells (idV (tipOf e3.k.1)).cells 35 (0, 0)) :: (b11, .mapIter (some mb) m.c ((es ++ [e3]).map (·.n)).toArray m.c) :: (s, .cells #[.int .i64 m.q, .int .i64 m.sz, .map (some mb)] 69 (0, 0)) :: (mb, mapO keyV en8V m.l m.c) :: (bldMx 35 idC ((es.map idOf8) ++ [(tipOf e3.k.1)]) st15)) (fun a => by rw [he20]; exact Nat.le_refl _) ?_
  have he21 : ((es.map idOf8) ++ [(tipOf e3.k.1)]) = ((es ++ [e3]).map idOf8) := map_next8
  exact pn_againS ((es ++ [e3]), st15) ⟨(seen_sub hsub he4), (seen_nd hndp hns5), (by rw [← he21]; exact hbo16), (by rw [← he21]; exact hX17)⟩ (by have h9 := seen_lt hsub hndp he4 hns5; simp only [List.length_append, List.length_cons, List.length_nil]; omega) ⟨rfl, (congrArg (fun l => some (bldVx l st15)) he21), trivial⟩ (fun a => by (try simp only [← he21]); simp -failIfUnchanged <;> omega)
end Go.Proofs.YtcmnmigcalibdaaGreatDoor

namespace Go.Proofs.YtcmnmigcalibdaaGreatDoor
open Go Go.Mv
set_option maxRecDepth 8000
section
variable {κ β : Type} [DecidableEq κ]
theorem mget_isSome {x : κ} {l : List (ME κ β)} : (mget x l).isSome = true ↔ x ∈ l.map (·.k) := by
  cases h : mget x l with
  | none =>
    have h1 := mget_none.1 h
    simp only [Option.isSome_none, Bool.false_eq_true, List.mem_map, false_iff, not_exists, not_and]
    exact h1
  | some v =>
    obtain ⟨e, he, hk, _⟩ := mget_mem h
    simp only [Option.isSome_some, List.mem_map, true_iff]
    exact ⟨e, he, hk⟩
end
theorem kOf_tip (k : Key) : kOf (tipOf k.1) = k := by
  apply Subtype.ext
  show tipL (tipOf k.1) = k.1
  apply List.ext_getElem?
  intro i
  by_cases hi : i < 32
  · have hl := k.2
    simp only [tipL, List.getElem?_map, List.getElem?_range hi, Option.map_some, tipOf]
    rw [List.getElem?_eq_getElem (by omega), List.getD_eq_getElem?_getD, List.getElem?_eq_getElem (by omega)]
    simp
  · rw [List.getElem?_eq_none (by rw [tipL_len]; omega), List.getElem?_eq_none (by rw [k.2]; omega)]
theorem ids_len {m : St8} {ts : List (Nat → Int)} (h : StOk m) (hs : SetOf (ids8 m) ts) : ts.length = m.l.length := by
  have hn : (ids8 m).Nodup := by
    rw [ids8, List.nodup_iff_pairwise_ne]
    refine List.pairwise_map.2 (h.ok.ks.imp fun {a b} hab he => hab ?_)
    rw [← kOf_tip a.k, ← kOf_tip b.k]
    exact congrArg kOf he
  have hp : ts.Perm (ids8 m) := (List.perm_ext_iff_of_nodup (srt_nodup hs.1) hn).2 hs.2
  rw [hp.length_eq, ids8, List.length_map]

end Go.Proofs.YtcmnmigcalibdaaGreatDoor

namespace Go.Proofs.YtcmnmigcalibdaaGreatDoor
open Go.Proofs.Tryz
open Go Go.Mv
set_option maxRecDepth 8000
theorem run_clone8 {κ β : Type} {ek : κ → Value} {ev : β → Value} {w : World} {r : Nat} {l : List (ME κ β)} {c : Nat} (T : TypeId) (h : w.heap[r]? = some (mapO ek ev l c)) :
    (callFunc 152 (#[.iface T (.map (some r))] : Array Value)).run Tryz.prog w = .ok (.value (.iface T (.map (some w.heap.size)))) (w.alloc (mapO ek ev l c)) := by
  have e : (Extern.MapsClone.clone #[.iface T (.map (some r))]).run Tryz.prog w = .ok (.iface T (.map (some w.heap.size))) (w.alloc (mapO ek ev l c)) := by
    show ((getObj r >>= fun o => match o with
      | .map entries clock => (newObj (.map entries clock) >>= fun n => pure (.iface T (.map (some n))))
      | _ => stuck "maps.clone: a map expected") : Sem Value).run Tryz.prog w = _
    simp only [Sem.run_bind, getObj_map h, Result.andThen_ok]
    simp [mapO, go_sem, Result.andThen]
  rw [run_callFunc_extern func152 (by kernel_rfl) (by kernel_rfl) (by kernel_rfl) (e := Extern.MapsClone.clone) (by kernel_rfl), e]
  rfl

theorem c_clone8 (mb : Nat) (l : List (ME Key En8)) (c : Nat) (w : World) (hok : MOk l c) (hH : Hp [(mb, mapO keyV en8V l c)] w) : Calls Tryz.prog 94 #[.map (some mb)] w (Ret w [] fun v H1 => ∃ b, v = .map (some b) ∧ H1 = [(b, mapO keyV en8V l c)]) := by
 refine fn_enter (args := [_]) func94 rfl ntmps94 rfl hH (sq (pl (qa rfl (n0 (sq (sq (pl (qm rfl (qq rfl (RD.as (v := .bool false) (RD.map_eql_nil underlying67 rfl rfl) rfl) ?_)))))))))
 refine n0 (pn_condF rfl (sk (sq (pl (qm rfl (qq rfl (RD.mkIfaceM underlying67 rfl) (TE_callX (obj := mapO keyV en8V l c) (vf := fun n => .iface 67 (.map (some n))) rfl rfl trivial rfl rfl rfl (fun w hw => run_clone8 _ (hw.get (i := 0) rfl)) fun b7 hb7 => (qq rfl (RD.assertM underlying67 rfl) (qa rfl ?_)))))))))
 exact n0 (rt (dS [(b7, mapO keyV en8V l c)] rfl rfl ⟨b7, rfl, rfl⟩ (ownC (.inl hb7) own0)))
theorem c_stCopy (s : Nat) (mb : Nat) (m : St8) (w : World) (hst : StOk m) (hH : Hp [(s, .cells #[.int .i64 m.q, .int .i64 m.sz, .map (some mb)] 69 (0, 0)), (mb, mapO keyV en8V m.l m.c)] w) : Calls Tryz.prog 36 #[.pointer (some ⟨s, 0, none⟩)] w (Ret w [] fun v H1 => ∃ s' mb', v = .pointer (some ⟨s', 0, none⟩) ∧ H1 = [(s', .cells #[.int .i64 m.q, .int .i64 m.sz, .map (some mb')] 69 (0, 0)), (mb', mapO keyV en8V m.l m.c)]) := by
 refine fn_enter (args := [_]) func36 rfl ntmps36 rfl hH (sq (pl (qa rfl (n0 (sq (sq (pl (qm rfl (cG rfl call77 (fun w hw => c_stNone s mb m w hst hw.s) ?_)))))))))
 rintro v1 H2 ⟨rfl, rfl⟩ -
 refine n0 (pn_condF rfl (sk (sq (dG [3, 7, 11] [] [(s, .cells #[.int .i64 m.q, .int .i64 m.sz, .map (some mb)] 69 (0, 0)), (mb, mapO keyV en8V m.l m.c)] (qm rfl (qn rfl (qq rfl (RD.fieldAddr (o := 0) runUnderlying69 rfl rfl sizeOf3 rfl) (qq rfl (RD.load (i := 0) isAgg3 rfl rfl rfl) (qm rfl ?_)))))))))
 refine qn rfl (qq rfl (RD.fieldAddr (o := 1) runUnderlying69 rfl rfl sizeOf3 rfl) (qq rfl (RD.load (i := 0) isAgg3 rfl rfl rfl) (qm rfl (qn rfl (qq rfl (RD.fieldAddr (o := 2) runUnderlying69 rfl rfl sizeOf67 rfl) (qq rfl (RD.load (i := 0) isAgg67 rfl rfl rfl) (cG rfl call94 (fun w hw => c_clone8 mb m.l m.c w hst.ok hw.s) ?_)))))))
 rintro v5 H6 ⟨mb3, rfl, rfl⟩ hX4
 exact tsp [(mb3, mapO keyV en8V m.l m.c)] (qq rfl (RD.build (v := .agg #[.int .i64 m.q, .int .i64 m.sz, .map (some mb3)]) rfl (fun w => by simp [Instr.build, zeroValue69, runUnderlying69, sizeOf3, sizeOf3, sizeOf67, Value.cells, Instr.fill])) (TE_boxC #[.int .i64 m.q, .int .i64 m.sz, .map (some mb3)] rfl rfl rfl trivial rfl fun b19 hb19 => (qa rfl (TE_nil (rt (dS [(b19, .cells #[.int .i64 m.q, .int .i64 m.sz, .map (some mb3)] 69 (0, 0)), (mb3, mapO keyV en8V m.l m.c)] rfl rfl ⟨b19, mb3, rfl, rfl⟩ (ownC (.inl hb19) (ownC (.inl (hX4 _ List.mem_cons_self)) own0))))))))
end Go.Proofs.YtcmnmigcalibdaaGreatDoor

namespace Go.Proofs.YtcmnmigcalibdaaGreatDoor
open Go.Proofs.Tryz
open Go Go.Mv
set_option maxRecDepth 8000
def mdl8 (m : St8) (T : List BSl) (i : Nat) : St8 := puts8 m ((T.take i).map (·.b))
theorem mdl8_next {m : St8} {T : List BSl} {i : Nat} (hi : i < T.length) : mdl8 m T (i + 1) = (put8 (mdl8 m T i) (gt T i).b).1 := puts8_next hi
/-- What the round at i yields: the place and what Put tells. -/
def putX (m : St8) (T : List BSl) (i : Nat) : Nat × Int := (i, (put8 (mdl8 m T i) (gt T i).b).2.2)
def putXs (m : St8) (T : List BSl) : List (Nat × Int) := (List.range T.length).map (putX m T)
theorem putXs_len (m : St8) (T : List BSl) : (putXs m T).length = T.length := by simp [putXs]
theorem putXs_next {m : St8} {T : List BSl} {i : Nat} (hi : i < T.length) : (putXs m T).take i ++ [putX m T i] = (putXs m T).take (i + 1) := by
  rw [List.take_succ_eq_append_getElem (by rw [putXs_len]; exact hi)]; simp [putXs]
theorem putXs_pre {m : St8} {T : List BSl} {i : Nat} (hi : i < T.length) : (putXs m T).take i ++ [putX m T i] <+: putXs m T := by
  rw [putXs_next hi]; exact List.take_prefix _ _

theorem it_puts (x1 : Nat) (x2 : Nat) (p : Nat) (mb : Nat) (m : St8) (T : List BSl) (Tv : Value) (HX : Mem) (hst : StOk m) (hbT : Rdx 1 (bsC) ((0, .cells (wfV 8 (s8f shaB)).cells 151 (0, 0)) :: (1, .cells (wfV 64 (gtf shaK)).cells 286 (0, 0)) :: HX) Tv T) (hbkT : BsOk ((0, .cells (wfV 8 (s8f shaB)).cells 151 (0, 0)) :: (1, .cells (wfV 64 (gtf shaK)).cells 286 (0, 0)) :: HX) T) (hlT : m.l.length + T.length < 1000000) (hsT : ∀ x ∈ T, x.b.length ≤ 1000000) : IterC Tryz.prog 144 [.pointer (some ⟨x1, 0, none⟩), .pointer (some ⟨x2, 0, none⟩)] (fun (x : Nat × Int) => [.int .i64 (x.1 : Int), .int .i64 x.2]) ((0, .cells (wfV 8 (s8f shaB)).cells 151 (0, 0)) :: (1, .cells (wfV 64 (gtf shaK)).cells 286 (0, 0)) :: HX) [(x1, .cells #[Tv] 24 (0, 0)), (x2, .cells #[.pointer (some ⟨p, 0, none⟩)] 28 (0, 0)), (p, .cells #[.int .i64 m.q, .int .i64 m.sz, .map (some mb)] 69 (0, 0)), (mb, mapO keyV en8V m.l m.c)] (putXs m T) (fun pre HI' => HI' = [(p, .cells #[.int .i64 (mdl8 m T pre.length).q, .int .i64 (mdl8 m T pre.length).sz, .map (some mb)] 69 (0, 0)), (mb, mapO keyV en8V (mdl8 m T pre.length).l (mdl8 m T pre.length).c)]) := by
 intro σ yl HJ G S w s0 h0 hHp hy
 refine fn_enter (args := [_, _, _]) func144 rfl ntmps144 rfl hHp (sq (plG [1] ((x1, .cells #[Tv] 24 (0, 0)) :: (x2, .cells #[.pointer (some ⟨p, 0, none⟩)] 28 (0, 0)) :: (p, .cells #[.int .i64 m.q, .int .i64 m.sz, .map (some mb)] 69 (0, 0)) :: (mb, mapO keyV en8V m.l m.c) :: (0, .cells (wfV 8 (s8f shaB)).cells 151 (0, 0)) :: (1, .cells (wfV 64 (gtf shaK)).cells 286 (0, 0)) :: ((HJ s0) ++ HX)) (ql rfl (RD.load (i := 0) isAgg24 rfl rfl rfl) (qq rfl (RD.lenX runUnderlying24 rfl hbT) (qm rfl (n0 (pn_block (lpS (σ := Nat × St8 × σ) (fun q => [(0, .func (.yield yl) #[] #[]), (2, .pointer (some ⟨x2, 0, none⟩)), (8, Tv), (9, .int .i64 (T.length : Int)), (10, .int .i64 (q.1 : Int))]) (fun q => ((p, .cells #[.int .i64 q.2.1.q, .int .i64 q.2.1.sz, .map (some mb)] 69 (0, 0)) :: (mb, mapO keyV en8V q.2.1.l q.2.1.c) :: (x1, .cells #[Tv] 24 (0, 0)) :: (x2, .cells #[.pointer (some ⟨p, 0, none⟩)] 28 (0, 0)) :: (0, .cells (wfV 8 (s8f shaB)).cells 151 (0, 0)) :: (1, .cells (wfV 64 (gtf shaK)).cells 286 (0, 0)) :: ((HJ q.2.2) ++ HX))) (fun q => (q.1 ≤ T.length) ∧ (StOk q.2.1) ∧ (q.2.1 = mdl8 m T q.1) ∧ (q.2.1.l.length ≤ m.l.length + q.1) ∧ (G ((putXs m T).take q.1) q.2.2) ∧ (∀ e ∈ HJ q.2.2, w.heap.size ≤ e.1 ∨ e.1 ∈ keys ([(x1, .cells #[Tv] 24 (0, 0)), (x2, .cells #[.pointer (some ⟨p, 0, none⟩)] 28 (0, 0)), (p, .cells #[.int .i64 m.q, .int .i64 m.sz, .map (some mb)] 69 (0, 0)), (mb, mapO keyV en8V m.l m.c)] ++ HJ s0))) (fun q => T.length - q.1) (0, m, s0) ⟨(by omega), hst, rfl, (Nat.le_refl _), h0, (fun e he => .inr (mem_keys.2 ⟨e, List.mem_append_right _ he, rfl⟩))⟩ ⟨rfl, rfl, rfl, rfl, rfl, trivial⟩ ?_))))))))
 rintro ⟨i, m1, s⟩ ⟨hi, hsm, hm, hml, hG, hXs⟩
 dsimp only at hi hsm hm hml hG hXs ⊢
 have hmn2 := hsm.n
 refine sq (pl (qq rfl (RD.lss rfl rfl) (n0 (sq (pn_condD rfl (fun hc1 => ?_) (fun hc1 => ?_))))))
 ·refine sk (sq (pn_block (sq (pl (qm rfl (qq rfl (RD.idxR (i := i) (o := (i * 1 + 0)) runUnderlying24 sizeOf32 rfl hbT rfl rfl (by omega) (by rfl)) (ql rfl (RD.ldR (i := i) (j := 0) (u := (BSl.v (gt T i))) isAgg32 rfl hbT (gt_some (by omega)) (by rfl) rfl sb) (qa rfl (qa rfl ?_)))))))))
  refine n0 (sq (pl (ql rfl (RD.load (i := 3) isAgg28 rfl rfl rfl) (qm rfl (cM [(p, .cells #[.int .i64 m1.q, .int .i64 m1.sz, .map (some mb)] 69 (0, 0)), (mb, mapO keyV en8V m1.l m1.c)] ((x1, .cells #[Tv] 24 (0, 0)) :: (x2, .cells #[.pointer (some ⟨p, 0, none⟩)] 28 (0, 0)) :: (0, .cells (wfV 8 (s8f shaB)).cells 151 (0, 0)) :: (1, .cells (wfV 64 (gtf shaK)).cells 286 (0, 0)) :: ((HJ s) ++ HX)) rfl call21 (ownC (.inr (by simp [keys])) (ownC (.inr (by simp [keys])) own0)) (fun w hw => c_stPut p mb m1 (BSl.v (gt T i)) ((gt T i).b) HX w hsm ((hbkT (gt T i) (gt_mem (by omega))).mono sb) (hsT _ (gt_mem (by omega))) hw.s) ?_)))))
  rintro v4 H5 ⟨rfl, rfl⟩ hX2
  have hst3 := put8_ok (b := ((gt T i).b)) hsm (by omega) (hsT _ (gt_mem (by omega)))
  refine tsp ((p, .cells #[.int .i64 (((put8 m1 ((gt T i).b)).1).q), .int .i64 (((put8 m1 ((gt T i).b)).1).sz), .map (some mb)] 69 (0, 0)) :: (mb, mapO keyV en8V (((put8 m1 ((gt T i).b)).1).l) (((put8 m1 ((gt T i).b)).1).c)) :: (x1, .cells #[Tv] 24 (0, 0)) :: (x2, .cells #[.pointer (some ⟨p, 0, none⟩)] 28 (0, 0)) :: (0, .cells (wfV 8 (s8f shaB)).cells 151 (0, 0)) :: (1, .cells (wfV 64 (gtf shaK)).cells 286 (0, 0)) :: ((HJ s) ++ HX)) (qm rfl (qe rfl (qe rfl (TE_allocC (idV (fun _ => 0)).cells rfl zeroValue35 rfl trivial rfl fun b6 hb6 => (TE_putCW 0 _ _ ((b6, .cells (idV ((put8 m1 ((gt T i).b)).2.1)).cells 35 (0, 0)) :: (p, .cells #[.int .i64 (((put8 m1 ((gt T i).b)).1).q), .int .i64 (((put8 m1 ((gt T i).b)).1).sz), .map (some mb)] 69 (0, 0)) :: (mb, mapO keyV en8V (((put8 m1 ((gt T i).b)).1).l) (((put8 m1 ((gt T i).b)).1).c)) :: (x1, .cells #[Tv] 24 (0, 0)) :: (x2, .cells #[.pointer (some ⟨p, 0, none⟩)] 28 (0, 0)) :: (0, .cells (wfV 8 (s8f shaB)).cells 151 (0, 0)) :: (1, .cells (wfV 64 (gtf shaK)).cells 286 (0, 0)) :: ((HJ s) ++ HX)) rfl sizeOf35 trivial rfl rfl rfl rfl rfl rfl rfl rfl (.inl hb6) (qa rfl (n0 (sq (pl ?_)))))))))
  refine qm rfl (qm rfl (qm rfl (tsp (((b6, .cells (idV ((put8 m1 ((gt T i).b)).2.1)).cells 35 (0, 0)) :: (p, .cells #[.int .i64 (((put8 m1 ((gt T i).b)).1).q), .int .i64 (((put8 m1 ((gt T i).b)).1).sz), .map (some mb)] 69 (0, 0)) :: (mb, mapO keyV en8V (((put8 m1 ((gt T i).b)).1).l) (((put8 m1 ((gt T i).b)).1).c)) :: (x1, .cells #[Tv] 24 (0, 0)) :: (x2, .cells #[.pointer (some ⟨p, 0, none⟩)] 28 (0, 0)) :: (0, .cells (wfV 8 (s8f shaB)).cells 151 (0, 0)) :: (1, .cells (wfV 64 (gtf shaK)).cells 286 (0, 0)) :: HX) ++ (HJ s)) (TE_yieldT ((b6, .cells (idV ((put8 m1 ((gt T i).b)).2.1)).cells 35 (0, 0)) :: (p, .cells #[.int .i64 (((put8 m1 ((gt T i).b)).1).q), .int .i64 (((put8 m1 ((gt T i).b)).1).sz), .map (some mb)] 69 (0, 0)) :: (mb, mapO keyV en8V (((put8 m1 ((gt T i).b)).1).l) (((put8 m1 ((gt T i).b)).1).c)) :: (x1, .cells #[Tv] 24 (0, 0)) :: (x2, .cells #[.pointer (some ⟨p, 0, none⟩)] 28 (0, 0)) :: (0, .cells (wfV 8 (s8f shaB)).cells 151 (0, 0)) :: (1, .cells (wfV 64 (gtf shaK)).cells 286 (0, 0)) :: HX) (HJ s) rfl rfl rfl trivial rfl rfl rfl hXs (fun W hW => hy ((putXs m T).take i) (i, (put8 m1 (gt T i).b).2.2) s W hG (by rw [hm]; exact putXs_pre (by omega)) hW.fr hW.hp.s) ?_))))
  rintro v6 H7 ⟨s8, rfl, ⟨rfl, hG9⟩ | ⟨rfl, hS10⟩⟩ hX11
  ·exact tsp ((b6, .cells (idV ((put8 m1 ((gt T i).b)).2.1)).cells 35 (0, 0)) :: (p, .cells #[.int .i64 (((put8 m1 ((gt T i).b)).1).q), .int .i64 (((put8 m1 ((gt T i).b)).1).sz), .map (some mb)] 69 (0, 0)) :: (mb, mapO keyV en8V (((put8 m1 ((gt T i).b)).1).l) (((put8 m1 ((gt T i).b)).1).c)) :: (x1, .cells #[Tv] 24 (0, 0)) :: (x2, .cells #[.pointer (some ⟨p, 0, none⟩)] 28 (0, 0)) :: (0, .cells (wfV 8 (s8f shaB)).cells 151 (0, 0)) :: (1, .cells (wfV 64 (gtf shaK)).cells 286 (0, 0)) :: (HX ++ (HJ s8))) (qq rfl (RD.as (v := .bool false) (RD.not rfl) rfl) (n0 (pn_condF rfl (sk (pl (qq rfl (RD.addI rfl rfl (by omega) (by omega)) (qm rfl (n0 (agS ((i + 1), (put8 m1 ((gt T i).b)).1, s8) ⟨(by omega), hst3, (by rw [mdl8_next (by omega), ← hm]), (Nat.le_trans put8_len (by omega)), (by have h9 := hG9; rw [hm] at h9; rw [← putXs_next (by omega)]; exact h9), hX11⟩ (by dsimp only; omega) ⟨rfl, rfl, rfl, rfl, rfl, trivial⟩)))))))))
  ·exact tsp ((b6, .cells (idV ((put8 m1 ((gt T i).b)).2.1)).cells 35 (0, 0)) :: (p, .cells #[.int .i64 (((put8 m1 ((gt T i).b)).1).q), .int .i64 (((put8 m1 ((gt T i).b)).1).sz), .map (some mb)] 69 (0, 0)) :: (mb, mapO keyV en8V (((put8 m1 ((gt T i).b)).1).l) (((put8 m1 ((gt T i).b)).1).c)) :: (x1, .cells #[Tv] 24 (0, 0)) :: (x2, .cells #[.pointer (some ⟨p, 0, none⟩)] 28 (0, 0)) :: (0, .cells (wfV 8 (s8f shaB)).cells 151 (0, 0)) :: (1, .cells (wfV 64 (gtf shaK)).cells 286 (0, 0)) :: (HX ++ (HJ s8))) (qq rfl (RD.as (v := .bool true) (RD.not rfl) rfl) (n0 (pn_condT rfl (rt (dS ([(p, .cells #[.int .i64 (((put8 m1 ((gt T i).b)).1).q), .int .i64 (((put8 m1 ((gt T i).b)).1).sz), .map (some mb)] 69 (0, 0)), (mb, mapO keyV en8V (((put8 m1 ((gt T i).b)).1).l) (((put8 m1 ((gt T i).b)).1).c))] ++ HJ s8) rfl rfl ⟨s8, _, rfl, .inr ⟨_, putXs_pre (i := i) (by omega), (by have h9 := hS10; rw [hm] at h9; exact h9), (by rw [putXs_next (i := i) (by omega), List.length_take, putXs_len, show min (i + 1) T.length = i + 1 by omega, mdl8_next (by omega), ← hm])⟩⟩ (ownC (hX2 _ List.mem_cons_self) (ownC (hX2 _ (List.mem_cons_of_mem _ List.mem_cons_self)) hX11)))))))
 ·refine xt ?_
  obtain rfl : i = T.length := (by omega)
  rw [List.take_of_length_le (by rw [putXs_len]; omega)] at hG
  exact dS ([(p, .cells #[.int .i64 m1.q, .int .i64 m1.sz, .map (some mb)] 69 (0, 0)), (mb, mapO keyV en8V m1.l m1.c)] ++ HJ s) rfl rfl ⟨s, _, rfl, .inl ⟨hG, (by rw [putXs_len, ← hm])⟩⟩ (ownC (.inr (by simp [keys])) (ownC (.inr (by simp [keys])) hXs))
end Go.Proofs.YtcmnmigcalibdaaGreatDoor
