import Derived.Test.YtmjmaloapafnlaaGreatDoorGaz
namespace Go.Proofs.YtmjmaloapafnlaaGreatDoor
open Go.Proofs.Tryz
open Go Go.Mv
set_option maxRecDepth 8000
section
variable {κ β : Type} {l es : List (ME κ β)} {e : ME κ β}
theorem seen_sub (h : ∀ e ∈ es, e ∈ l) (he : e ∈ l) : ∀ x ∈ es ++ [e], x ∈ l := fun x hx => by
  rcases List.mem_append.1 hx with hx | hx
  · exact h x hx
  · simp only [List.mem_cons, List.not_mem_nil, or_false] at hx; subst hx; exact he
theorem seen_nd (h : (es.map (·.n)).Nodup) (hn : e.n ∉ (es.map (·.n)).toArray) : ((es ++ [e]).map (·.n)).Nodup := by
  rw [List.map_append, List.nodup_append]
  refine ⟨h, by simp, fun a ha b hb => ?_⟩
  simp only [List.map_cons, List.map_nil, List.mem_cons, List.not_mem_nil, or_false] at hb
  subst hb
  intro hab; subst hab
  exact hn (by simpa using ha)
theorem seen_lt (hs : ∀ e ∈ es, e ∈ l) (h : (es.map (·.n)).Nodup) (he : e ∈ l) (hn : e.n ∉ (es.map (·.n)).toArray) : es.length < l.length := by
  have h1 := nodup_le (seen_nd h hn) (l := l.map (·.n)) (fun x hx => by
    obtain ⟨y, hy, rfl⟩ := List.mem_map.1 hx
    exact List.mem_map.2 ⟨y, seen_sub hs he y hy, rfl⟩)
  simp only [List.length_map, List.length_append, List.length_cons, List.length_nil] at h1
  omega
theorem seen_le (hs : ∀ e ∈ es, e ∈ l) (h : (es.map (·.n)).Nodup) : es.length ≤ l.length := by
  have h1 := nodup_le h (l := l.map (·.n)) (fun x hx => by
    obtain ⟨y, hy, rfl⟩ := List.mem_map.1 hx
    exact List.mem_map.2 ⟨y, hs y hy, rfl⟩)
  simpa using h1
/-- All were seen. -/
theorem seen_all (hns : l.Pairwise fun a b => a.n ≠ b.n) (hs : ∀ e ∈ es, e ∈ l) (ha : ∀ e ∈ l, e.n ∈ (es.map (·.n)).toArray) : ∀ e, e ∈ es ↔ e ∈ l := fun e => by
  refine ⟨hs e, fun he => ?_⟩
  have h1 := ha e he
  simp only [List.mem_toArray, List.mem_map] at h1
  obtain ⟨y, hy, hyn⟩ := h1
  have hyl := hs y hy
  obtain ⟨i, hi⟩ := List.getElem?_of_mem he
  obtain ⟨j, hj⟩ := List.getElem?_of_mem hyl
  have li := (List.getElem?_eq_some_iff.1 hi).1
  have lj := (List.getElem?_eq_some_iff.1 hj).1
  rw [List.pairwise_iff_getElem] at hns
  rw [List.getElem?_eq_getElem li] at hi
  rw [List.getElem?_eq_getElem lj] at hj
  rcases Nat.lt_trichotomy i j with h | h | h
  · exact absurd (by rw [Option.some.inj hi, Option.some.inj hj, hyn]) (hns i j li lj h)
  · subst h; rw [← Option.some.inj hi, Option.some.inj hj]; exact hy
  · exact absurd (by rw [Option.some.inj hi, Option.some.inj hj, hyn]) (hns j i lj li h)
end
def idOf8 (e : ME Key En8) : Nat → Int := tipOf e.k.1
def ids8 (m : St8) : List (Nat → Int) := m.l.map idOf8
theorem idOf8_ok (e : ME Key En8) : IdOk (idOf8 e) := tip_ok _
theorem idOf8_can (e : ME Key En8) : IdCan (idOf8 e) := fun i hi => by
  show (((e.k.1.getD i 0).toNat : Int)) = 0
  rw [List.getD_eq_getElem?_getD, List.getElem?_eq_none (by rw [e.k.2]; exact hi)]; rfl
theorem map_next8 {es : List (ME Key En8)} {e : ME Key En8} : es.map idOf8 ++ [tipOf e.k.1] = (es ++ [e]).map idOf8 := by simp [idOf8]

theorem ids_congr {m : St8} {es : List (ME Key En8)} (h : ∀ e, e ∈ es ↔ e ∈ m.l) (x : Nat → Int) : x ∈ es.map idOf8 ↔ x ∈ ids8 m := by
  simp only [ids8, List.mem_map, h]
theorem ids8_ok (es : List (ME Key En8)) : ∀ x ∈ es.map idOf8, IdOk x := fun x hx => by
  obtain ⟨e, _, rfl⟩ := List.mem_map.1 hx; exact idOf8_ok e
theorem ids8_can (es : List (ME Key En8)) : ∀ x ∈ es.map idOf8, IdCan x := fun x hx => by
  obtain ⟨e, _, rfl⟩ := List.mem_map.1 hx; exact idOf8_can e

theorem c_stIDs (s : Nat) (mb : Nat) (m : St8) (w : World) (hst : StOk m) (hH : Hp [(s, .cells #[.int .i64 m.q, .int .i64 m.sz, .map (some mb)] 87 (0, 0)), (mb, mapO keyV en8V m.l m.c)] w) : Calls Tryz.prog 37 #[.pointer (some ⟨s, 0, none⟩)] w (Ret w [] fun v H1 => ∃ ts st', SetOf (ids8 m) ts ∧ BldOk 32 (idC) ts st' ∧ v = bldVx ts st' ∧ H1 = bldMx 36 (idC) ts st') := by
 refine fn_enter (args := [_]) func37 rfl ntmps37 rfl hH (sq (pl (qa rfl (n0 (sq (sq (pl (qm rfl (cG rfl call71 (fun w hw => c_stNone s mb m w hst hw.s) ?_)))))))))
 rintro v1 H2 ⟨rfl, rfl⟩ -
 refine n0 (pn_condF rfl (sk (sq (pl (qa rfl (n0 (sq (sq (pl ?_)))))))))
 refine qm rfl (qn rfl (qq rfl (RD.fieldAddr (o := 2) runUnderlying87 rfl rfl sizeOf85 rfl) (ql rfl (RD.load (i := 0) isAgg85 rfl rfl rfl) (TE_rangeM (ek := keyV) (ev := en8V) (l := m.l) 1 rfl underlying85 rfl rfl trivial rfl fun b11 hb11 => (n0 (pn_block (lpS (σ := (List (ME Key En8)) × SnkS) (fun q => [(11, .pointer (some ⟨b11, 0, none⟩)), (3, bldVx (q.1.map idOf8) q.2)]) (fun q => ((b11, .mapIter (some mb) m.c (q.1.map (·.n)).toArray m.c) :: (s, .cells #[.int .i64 m.q, .int .i64 m.sz, .map (some mb)] 87 (0, 0)) :: (mb, mapO keyV en8V m.l m.c) :: (bldMx 36 idC (q.1.map idOf8) q.2))) (fun q => (∀ e ∈ q.1, e ∈ m.l) ∧ ((q.1.map (·.n)).Nodup) ∧ (BldOk 32 idC (q.1.map idOf8) q.2) ∧ (∀ e ∈ bldMx 36 idC (q.1.map idOf8) q.2, w.heap.size ≤ e.1 ∨ e.1 ∈ [])) (fun q => m.l.length - q.1.length) ([], none) ⟨(fun e h => nomatch h), List.nodup_nil, BldOk.nil, (by intro e he; cases he)⟩ ⟨rfl, rfl, trivial⟩ ?_)))))))
 rintro ⟨es, st3⟩ ⟨hsub, hndp, hbost3, hXst3⟩
 dsimp only at hsub hndp hbost3 hXst3 ⊢
 have hRst3 := hbost3.rdx (u := 36) idC_len
 have hsl := seen_le hsub hndp
 have hmn := hst.n
 refine sq (pl (TE_nextM (ek := keyV) (ev := en8V) (l := m.l) (seen := (es.map (·.n)).toArray) (i := 0) (j := 2) rfl rfl trivial rfl rfl rfl (hst.ok).lt (Nat.le_refl _) (.inl hb11) (fun hall6 => ?_) (fun e3 he4 hns5 => ?_)))
 ·refine qe rfl (n0 (sq (pn_condF rfl (xt (sq (pl (qm rfl (cG rfl call46 (fun w hw => c_hashSet (bldMx 36 idC (es.map idOf8) st3) (bldVx (es.map idOf8) st3) (es.map idOf8) w hRst3.s (ids8_can es) (ids8_ok es) (by simp; omega) hw.s) ?_))))))))
  rintro v13 H14 ⟨ts7, st9, hset8, hbo10, rfl, rfl⟩ hX11
  have hRD12 := hbo10.rdx (u := 36) idC_len
  exact tsp ((b11, .mapIter (some mb) m.c (es.map (·.n)).toArray m.c) :: (s, .cells #[.int .i64 m.q, .int .i64 m.sz, .map (some mb)] 87 (0, 0)) :: (mb, mapO keyV en8V m.l m.c) :: ((bldMx 36 (idC) ts7 st9) ++ (bldMx 36 (idC) (es.map idOf8) st3))) (qa rfl (n0 (rt (dS (bldMx 36 idC ts7 st9) rfl rfl ⟨_, st9, (hset8.congr (ids_congr (seen_all hst.ok.ns hsub hall6))), hbo10, rfl, rfl⟩ (ownN hX11)))))
 ·refine qe rfl (n0 (sq (pn_condT rfl (sk (pn_block (sq (pl (ql rfl (RD.entryM (ek := keyV) (ev := en8V) (l := m.l) (e := e3) (i := 0) (j := 2) rfl rfl rfl hst.ok he4) (qe rfl ?_)))))))))
  refine TE_allocC (idV (fun _ => 0)).cells rfl zeroValue36 rfl trivial rfl fun b4 hb4 => (TE_putCW 0 _ _ ((b4, .cells (idV (tipOf e3.k.1)).cells 36 (0, 0)) :: (b11, .mapIter (some mb) m.c ((es.map (·.n)).toArray.push e3.n) m.c) :: (s, .cells #[.int .i64 m.q, .int .i64 m.sz, .map (some mb)] 87 (0, 0)) :: (mb, mapO keyV en8V m.l m.c) :: (bldMx 36 idC (es.map idOf8) st3)) rfl sizeOf36 trivial rfl rfl rfl rfl rfl rfl rfl rfl (.inl hb4) (n0 (pl (qm rfl (ql rfl (RD.loadA (i := 0) isAgg36 sizeOf36 rfl rfl (Nat.le_of_ble_eq_true rfl) (id_all _)) (TE_buildSlice (cells := (cat idC [(tipOf e3.k.1)] ++ []).toArray) rfl runUnderlying44 sizeOf36 zeroValue36 rfl rfl rfl (by kernel_rfl) trivial rfl fun b18 hb18 => (tsp ((bldMx 36 (idC) (es.map idOf8) st3) ++ [(b18, .cells (cat idC [(tipOf e3.k.1)] ++ []).toArray 36 (0, 0)), (b4, .cells (idV (tipOf e3.k.1)).cells 36 (0, 0)), (b11, .mapIter (some mb) m.c ((es.map (·.n)).toArray.push e3.n) m.c), (s, .cells #[.int .i64 m.q, .int .i64 m.sz, .map (some mb)] 87 (0, 0)), (mb, mapO keyV en8V m.l m.c)]) (TE_appendX (st := st3) (l := (es.map idOf8)) (ys := [(tipOf e3.k.1)]) [(b18, .cells (cat idC [(tipOf e3.k.1)] ++ []).toArray 36 (0, 0)), (b4, .cells (idV (tipOf e3.k.1)).cells 36 (0, 0)), (b11, .mapIter (some mb) m.c ((es.map (·.n)).toArray.push e3.n) m.c), (s, .cells #[.int .i64 m.q, .int .i64 m.sz, .map (some mb)] 87 (0, 0)), (mb, mapO keyV en8V m.l m.c)] idC_len idC_one rfl rfl rfl rfl trivial rfl underlying44 elId rfl rfl rfl hbost3 (Rdx.blk (enc := idC) (H := [(b18, .cells (cat idC [(tipOf e3.k.1)] ++ []).toArray 36 (0, 0))]) (xs := [(tipOf e3.k.1)]) (n := 1) (i := 0) (tl := []) (c := 1) idC_len rfl rfl (Nat.le_refl _)) sb (by simp; omega) rfl hXst3 ?_))))))))
  intro st15 hbo16 hX17 _
  have hR19 := hbo16.rdx (u := 36) idC_len
  refine tsp ((b18, .cells (cat idC [(tipOf e3.k.1)] ++ []).toArray 36 (0, 0)) :: (b4, .cells (idV (tipOf e3.k.1)).cells 36 (0, 0)) :: (b11, .mapIter (some mb) m.c ((es.map (·.n)).toArray.push e3.n) m.c) :: (s, .cells #[.int .i64 m.q, .int .i64 m.sz, .map (some mb)] 87 (0, 0)) :: (mb, mapO keyV en8V m.l m.c) :: (bldMx 36 (idC) ((es.map idOf8) ++ [(tipOf e3.k.1)]) st15)) (qa rfl (n0 ?_))
  have he20 : (es.map (·.n)).toArray.push e3.n = (((es ++ [e3])).map (·.n)).toArray := by simp
  refine pn_sp ((b18, .cells (cat idC [(tipOf e3.k.1)] ++ []).toArray 36 (0, 0)) :: (b4, .cells (idV (tipOf e3.k.1)).cells 36 (0, 0)) :: (b11, .mapIter (some mb) m.c ((es ++ [e3]).map (·.n)).toArray m.c) :: (s, .cells #[.int .i64 m.q, .int .i64 m.sz, .map (some mb)] 87 (0, 0)) :: (mb, mapO keyV en8V m.l m.c) :: (bldMx 36 idC ((es.map idOf8) ++ [(tipOf e3.k.1)]) st15)) (fun a => by rw [he20]; exact Nat.le_refl _) ?_
  have he21 : ((es.map idOf8) ++ [(tipOf e3.k.1)]) = ((es ++ [e3]).map idOf8) := map_next8
  exact pn_againS ((es ++ [e3]), st15) ⟨(seen_sub hsub he4), (seen_nd hndp hns5), (by rw [← he21]; exact hbo16), (by rw [← he21]; exact hX17)⟩ (by have h9 := seen_lt hsub hndp he4 hns5; simp only [List.length_append, List.length_cons, List.length_nil]; omega) ⟨rfl, (congrArg (fun l => some (bldVx l st15)) he21), trivial⟩ (fun a => by (try simp only [← he21]); simp -failIfUnchanged <;> omega)
end Go.Proofs.YtmjmaloapafnlaaGreatDoor

namespace Go.Proofs.YtmjmaloapafnlaaGreatDoor
open Go Go.Mv
set_option maxRecDepth 8000
section
variable {κ β : Type} [DecidableEq κ]
theorem mget_isSome {x : κ} {l : List (ME κ β)} : (mget x l).isSome = true ↔ x ∈ l.map (·.k) := by
  cases h : mget x l with
  | none =>
    have h1 := mget_none.1 h
    simp only [Option.isSome_none, Bool.false_eq_true, List.mem_map, false_iff, not_exists, not_and]
    exact h1
  | some v =>
    obtain ⟨e, he, hk, _⟩ := mget_mem h
    simp only [Option.isSome_some, List.mem_map, true_iff]
    exact ⟨e, he, hk⟩
theorem mput_keys {x : κ} {v : β} {l : List (ME κ β)} {c : Nat} : (mput x v l c).1.map (·.k) = if x ∈ l.map (·.k) then l.map (·.k) else l.map (·.k) ++ [x] := by
  unfold mput
  cases hm : mpos x l 0 with
  | none =>
    have h1 : ¬ x ∈ l.map (·.k) := by
      rw [← mget_isSome, mget, hm]; simp
    rw [if_neg h1]; simp
  | some p =>
    have h1 : x ∈ l.map (·.k) := by
      rw [← mget_isSome, mget, hm]; simp
    rw [if_pos h1]
    exact mat_map (fun e => e.k) (fun _ _ => rfl) _ v l
end
theorem kOf_tip (k : Key) : kOf (tipOf k.1) = k := by
  apply Subtype.ext
  show tipL (tipOf k.1) = k.1
  apply List.ext_getElem?
  intro i
  by_cases hi : i < 32
  · have hl := k.2
    simp only [tipL, List.getElem?_map, List.getElem?_range hi, Option.map_some, tipOf]
    rw [List.getElem?_eq_getElem (by omega), List.getD_eq_getElem?_getD, List.getElem?_eq_getElem (by omega)]
    simp
  · rw [List.getElem?_eq_none (by rw [tipL_len]; omega), List.getElem?_eq_none (by rw [k.2]; omega)]
structure KeepI (T : List BSl) (q : Int) (n : Nat) (m : St8) (hl : List (ME Key BSl)) (hc : Nat) : Prop where
  st : StOk m
  hk : MOk hl hc
  q : m.q = q
  n : m.l.length ≤ n
  t : ∀ e ∈ m.l, ∃ x ∈ T, e.v = x8 x.b ∧ e.k = k8 x.b
  h : ∀ e ∈ hl, e.v ∈ T ∧ e.k = k8 e.v.b
  k : m.l.map (·.k) = hl.map (·.k)
theorem keep_start {T : List BSl} {q : Int} (h : StOk ⟨q, 0, [], 0⟩) : KeepI T q 0 ⟨q, 0, [], 0⟩ [] 0 := ⟨h, MOk.nil 0, rfl, Nat.le_refl _, (fun e he => nomatch he), (fun e he => nomatch he), rfl⟩
theorem put8_q {m : St8} {b : List UInt8} : (put8 m b).1.q = m.q := by
  unfold put8
  repeat' split
  all_goals rfl
section
variable {T : List BSl} {q : Int} {n : Nat} {m : St8} {hl : List (ME Key BSl)} {hc : Nat} {x : BSl}
theorem keep_same (hI : KeepI T q n m hl hc) (hx : x ∈ T) (hcl : clashB T = false) (hh : has8 m (k8 x.b) = true) : get8 m (k8 x.b) = x8 x.b := by
  unfold has8 at hh
  unfold get8
  cases hm : mget (k8 x.b) m.l with
  | none => rw [hm] at hh; cases hh
  | some v =>
    obtain ⟨e, he, hk, rfl⟩ := mget_mem hm
    obtain ⟨y, hy, h1, h2⟩ := hI.t e he
    have : y.b = x.b := no_clash hcl hy hx (h2.symm.trans hk)
    rw [Option.getD_some, h1, this]
/-- What Put tells, when no two unlike texts have one id. -/
theorem keep_way (hI : KeepI T q n m hl hc) (hx : x ∈ T) (hcl : clashB T = false) :
    (kindM x.b = 0 ∧ put8 m x.b = (m, (fun _ => 0), 70)) ∨ (¬ kindM x.b = 0 ∧ has8 m (k8 x.b) = true ∧ put8 m x.b = (m, shaF x.b, 0)) ∨ (¬ kindM x.b = 0 ∧ has8 m (k8 x.b) = false ∧ put8 m x.b = (m, (fun _ => 0), 81)) ∨
    (¬ kindM x.b = 0 ∧ has8 m (k8 x.b) = false ∧ put8 m x.b = (⟨m.q, m.sz + x.b.length, (mput (k8 x.b) (x8 x.b) m.l m.c).1, (mput (k8 x.b) (x8 x.b) m.l m.c).2⟩, shaF x.b, 0)) := by
  by_cases hk : kindM x.b = 0
  · exact .inl ⟨hk, put8_0 hk⟩
  · cases hh : has8 m (k8 x.b) with
    | true => exact .inr (.inl ⟨hk, rfl, put8_is hk hh (by rw [keep_same hI hx hcl hh]; exact same_en8_self _)⟩)
    | false =>
      by_cases hq : m.q - m.sz < x.b.length
      · exact .inr (.inr (.inl ⟨hk, rfl, put8_quota hk hh hq⟩))
      · exact .inr (.inr (.inr ⟨hk, rfl, put8_new hk hh hq⟩))
theorem keep_err (hI : KeepI T q n m hl hc) (hx : x ∈ T) (hcl : clashB T = false) : ¬ (put8 m x.b).2.2 = 80 ∧ decide ((put8 m x.b).2.2 = 70) = decide (kindM x.b = 0) ∧ ((put8 m x.b).2.2 = 0 → (put8 m x.b).2.1 = shaF x.b) := by
  rcases keep_way hI hx hcl with ⟨h1, h⟩ | ⟨h1, _, h⟩ | ⟨h1, _, h⟩ | ⟨h1, _, h⟩ <;> rw [h] <;> simp [h1]
theorem keep_0 (hI : KeepI T q n m hl hc) (hx : x ∈ T) (hcl : clashB T = false) (hn : n < 1000000) (hb : x.b.length ≤ 1000000) (he : (put8 m x.b).2.2 = 0) : KeepI T q (n + 1) (put8 m x.b).1 (mput (k8 x.b) x hl hc).1 (mput (k8 x.b) x hl hc).2 := by
  have hst := put8_ok (b := x.b) hI.st (Nat.lt_of_le_of_lt hI.n hn) hb
  have hln := Nat.le_trans (put8_len (m := m) (b := x.b)) (Nat.succ_le_succ hI.n)
  have hq := (put8_q (m := m) (b := x.b)).trans hI.q
  have hh2 : ∀ e ∈ (mput (k8 x.b) x hl hc).1, e.v ∈ T ∧ e.k = k8 e.v.b := fun e he => by
    rcases mput_mem he with ⟨h1, h2⟩ | h1
    · rw [h1]; exact ⟨hx, h2⟩
    · exact hI.h e h1
  have ht : ∀ e ∈ (put8 m x.b).1.l, ∃ x ∈ T, e.v = x8 x.b ∧ e.k = k8 x.b := fun e he => by
    rcases put8_mem he with ⟨h1, h2⟩ | h1
    · exact ⟨x, hx, h1, h2⟩
    · exact hI.t e h1
  refine ⟨hst, hI.hk.put _ _, hq, hln, ht, hh2, ?_⟩
  rcases keep_way hI hx hcl with ⟨_, h⟩ | ⟨_, h1, h⟩ | ⟨_, _, h⟩ | ⟨_, h1, h⟩
  · rw [h] at he; cases he
  · rw [h, mput_keys, ← hI.k, if_pos (mget_isSome.1 h1)]
  · rw [h] at he; cases he
  · rw [h]
    show (mput (k8 x.b) (x8 x.b) m.l m.c).1.map (·.k) = _
    rw [mput_keys, mput_keys, hI.k]
theorem keep_e (hI : KeepI T q n m hl hc) (hx : x ∈ T) (hcl : clashB T = false) (he : ¬ (put8 m x.b).2.2 = 0) : KeepI T q (n + 1) (put8 m x.b).1 hl hc := by
  rcases keep_way hI hx hcl with ⟨_, h⟩ | ⟨_, _, h⟩ | ⟨_, _, h⟩ | ⟨_, _, h⟩
  · rw [h]; exact { hI with n := Nat.le_succ_of_le hI.n }
  · rw [h] at he; exact absurd rfl he
  · rw [h]; exact { hI with n := Nat.le_succ_of_le hI.n }
  · rw [h] at he; exact absurd rfl he
theorem keep_get (hI : KeepI T q n m hl hc) (hcl : clashB T = false) {e : ME Key BSl} (he : e ∈ hl) : has8 m e.k = true ∧ (get8 m e.k).raw = ⟨e.v.b.toArray⟩ := by
  obtain ⟨h1, h2⟩ := hI.h e he
  have hh : has8 m e.k = true := by
    unfold has8; rw [mget_isSome, hI.k]; exact List.mem_map.2 ⟨e, he, rfl⟩
  refine ⟨hh, ?_⟩
  rw [h2] at hh ⊢
  rw [keep_same hI h1 hcl hh]; rfl
theorem keep_len (hI : KeepI T q n m hl hc) : m.l.length = hl.length := by
  have := congrArg List.length hI.k
  simpa using this
end
theorem ids_len {m : St8} {ts : List (Nat → Int)} (h : StOk m) (hs : SetOf (ids8 m) ts) : ts.length = m.l.length := by
  have hn : (ids8 m).Nodup := by
    rw [ids8, List.nodup_iff_pairwise_ne]
    refine List.pairwise_map.2 (h.ok.ks.imp fun {a b} hab he => hab ?_)
    rw [← kOf_tip a.k, ← kOf_tip b.k]
    exact congrArg kOf he
  have hp : ts.Perm (ids8 m) := (List.perm_ext_iff_of_nodup (srt_nodup hs.1) hn).2 hs.2
  rw [hp.length_eq, ids8, List.length_map]

end Go.Proofs.YtmjmaloapafnlaaGreatDoor
