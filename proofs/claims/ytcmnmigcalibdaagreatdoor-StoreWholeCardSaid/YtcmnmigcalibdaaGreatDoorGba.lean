import Derived.Test.YtcmnmigcalibdaaGreatDoorGaz
namespace Go.Proofs.YtcmnmigcalibdaaGreatDoor
open Go.Proofs.Tryz
open Go Go.Mv
set_option maxRecDepth 8000
/-- What putting several leaves, how many, the error. -/
def putAll8 (m : St8) (T : List BSl) : St8 × Nat × Int := match (putXs m T).find? (fun x => !decide (x.2 = 0)) with
  | some x => (m, x)
  | none => (mdl8 m T T.length, T.length, 0)
theorem putAll_stop {m : St8} {T : List BSl} {pre : List (Nat × Int)} {x : Nat × Int} (hp : (pre ++ [x]) <+: putXs m T) (h0 : ∀ y ∈ pre, y.2 = 0) (hx : ¬ x.2 = 0) : putAll8 m T = (m, x) := by
  obtain ⟨r, hr⟩ := hp
  have h1 : pre.find? (fun x => !decide (x.2 = 0)) = none := List.find?_eq_none.2 fun y hy => by simp [h0 y hy]
  rw [putAll8, ← hr, List.append_assoc, List.find?_append, h1]
  simp [hx]
theorem putAll_done {m : St8} {T : List BSl} (h0 : ∀ y ∈ putXs m T, y.2 = 0) : putAll8 m T = (mdl8 m T T.length, T.length, 0) := by
  rw [putAll8, List.find?_eq_none.2 fun y hy => by simp [h0 y hy]]
theorem puts8_ok : ∀ {bs : List (List UInt8)} {m : St8}, StOk m → m.l.length + bs.length < 1000000 → (∀ b ∈ bs, b.length ≤ 1000000) → StOk (puts8 m bs)
  | [], _, h, _, _ => h
  | b :: bs, m, h, hn, hb => by
    simp only [List.length_cons] at hn
    have h1 := put8_len (m := m) (b := b)
    exact puts8_ok (bs := bs) (m := (put8 m b).1) (put8_ok h (by omega) (hb b List.mem_cons_self)) (by omega) (fun c hc => hb c (List.mem_cons_of_mem _ hc))
theorem puts8_len : ∀ {bs : List (List UInt8)} {m : St8}, (puts8 m bs).l.length ≤ m.l.length + bs.length
  | [], _ => Nat.le_refl _
  | b :: bs, m => by
    have h1 := put8_len (m := m) (b := b)
    have h2 := puts8_len (bs := bs) (m := (put8 m b).1)
    simp only [List.length_cons]
    exact Nat.le_trans h2 (by omega)
theorem mdl8_ok {m : St8} {T : List BSl} {i : Nat} (h : StOk m) (hn : m.l.length + T.length < 1000000) (hb : ∀ x ∈ T, x.b.length ≤ 1000000) : StOk (mdl8 m T i) :=
  puts8_ok h (by simp only [List.length_map, List.length_take]; omega) fun b hb' => by
    obtain ⟨x, hx, rfl⟩ := List.mem_map.1 hb'
    exact hb x (List.mem_of_mem_take hx)
theorem mdl8_len {m : St8} {T : List BSl} {i : Nat} : (mdl8 m T i).l.length ≤ m.l.length + T.length := by
  refine Nat.le_trans puts8_len ?_
  simp only [List.length_map, List.length_take]; omega
theorem putAll_ok {m : St8} {T : List BSl} (h : StOk m) (hn : m.l.length + T.length < 1000000) (hb : ∀ x ∈ T, x.b.length ≤ 1000000) : StOk (putAll8 m T).1 := by
  unfold putAll8; split
  · exact h
  · exact mdl8_ok h hn hb
theorem putAll_len {m : St8} {T : List BSl} : (putAll8 m T).1.l.length ≤ m.l.length + T.length := by
  unfold putAll8; split
  · exact Nat.le_add_right _ _
  · exact mdl8_len
theorem putAll_n {m : St8} {T : List BSl} : (putAll8 m T).2.1 ≤ T.length := by
  unfold putAll8
  split
  · rename_i x h
    have h1 := List.mem_of_find?_eq_some h
    simp only [putXs, List.mem_map, List.mem_range] at h1
    obtain ⟨i, hi, rfl⟩ := h1
    exact Nat.le_of_lt hi
  · exact Nat.le_refl _

theorem putXs_get {m : St8} {T : List BSl} {i : Nat} : (putXs m T)[i]? = if i < T.length then some (putX m T i) else none := by
  simp only [putXs, List.getElem?_map]
  split
  · rename_i h; rw [List.getElem?_range h]; rfl
  · rename_i h; rw [List.getElem?_eq_none (by simpa using h)]; rfl
theorem mdl8_take {m : St8} {T : List BSl} {n i : Nat} (h : i ≤ n) : mdl8 m (T.take n) i = mdl8 m T i := by
  rw [mdl8, mdl8, List.take_take, Nat.min_eq_left h]
theorem putXs_take {m : St8} {T : List BSl} {n : Nat} : putXs m (T.take n) = (putXs m T).take n := by
  apply List.ext_getElem?
  intro i
  rw [putXs_get, List.getElem?_take, putXs_get, List.length_take]
  by_cases h : i < n
  · rw [if_pos h]
    by_cases h2 : i < T.length
    · rw [if_pos h2, if_pos (by omega), putX, putX, mdl8_take (by omega), gt_eq (i := i) (by rw [List.getElem?_take, if_pos h]; exact gt_some h2)]
    · rw [if_neg h2, if_neg (by omega)]
  · rw [if_neg h, if_neg (by omega)]
theorem whole_err {m : St8} {T : List BSl} (h : ¬ (putAll8 m T).2.2 = 0) : (putAll8 m T).2.1 < T.length ∧ (putAll8 m T).1 = m ∧ putAll8 m (T.take (putAll8 m T).2.1) = (mdl8 m T (putAll8 m T).2.1, (putAll8 m T).2.1, 0) := by
  have key : ∀ x, (putXs m T).find? (fun x => !decide (x.2 = 0)) = some x → x.1 < T.length ∧ putAll8 m (T.take x.1) = (mdl8 m T x.1, x.1, 0) := fun x hx => by
    obtain ⟨_, us, vs, he, ha⟩ := List.find?_eq_some_iff_append.1 hx
    have h1 : (putXs m T)[us.length]? = some x := by rw [he, List.getElem?_append_right (Nat.le_refl _)]; simp
    rw [putXs_get] at h1
    split at h1
    · rename_i hl
      have h2 : x.1 = us.length := by rw [← Option.some.inj h1]; rfl
      rw [h2]
      refine ⟨hl, ?_⟩
      rw [putAll_done, mdl8_take (by rw [List.length_take]; omega), List.length_take, Nat.min_eq_left (Nat.le_of_lt hl)]
      intro y hy
      rw [putXs_take, he, List.take_append_of_le_length (Nat.le_refl _), List.take_length] at hy
      have := ha y hy
      simpa using this
    · cases h1
  unfold putAll8 at h ⊢
  cases hf : (putXs m T).find? (fun x => !decide (x.2 = 0)) with
  | none => rw [hf] at h; exact absurd rfl h
  | some x =>
    obtain ⟨h1, h2⟩ := key x hf
    exact ⟨h1, rfl, h2⟩
theorem put8_keys {m : St8} {b : List UInt8} {k : Key} (h : k ∈ m.l.map (·.k)) : k ∈ (put8 m b).1.l.map (·.k) := by
  unfold put8
  repeat' split
  all_goals first | exact h | skip
  show k ∈ (mput (k8 b) (x8 b) m.l m.c).1.map (·.k)
  rw [mput_keys]; split
  · exact h
  · exact List.mem_append_left _ h
theorem puts8_keys : ∀ {bs : List (List UInt8)} {m : St8} {k : Key}, k ∈ m.l.map (·.k) → k ∈ (puts8 m bs).l.map (·.k)
  | [], _, _, h => h
  | b :: bs, m, k, h => puts8_keys (bs := bs) (m := (put8 m b).1) (put8_keys h)
theorem whole_ok {m : St8} {T : List BSl} (h : (putAll8 m T).2.2 = 0) : (putAll8 m T).2.1 = T.length ∧ ∀ k ∈ m.l.map (·.k), k ∈ (putAll8 m T).1.l.map (·.k) := by
  unfold putAll8 at h ⊢
  cases hf : (putXs m T).find? (fun x => !decide (x.2 = 0)) with
  | none => exact ⟨rfl, fun k hk => puts8_keys hk⟩
  | some x =>
    rw [hf] at h
    have := List.find?_some hf
    simp only at h
    simp [h] at this
theorem ids_key {m : St8} {x : Nat → Int} : x ∈ ids8 m ↔ ∃ k ∈ m.l.map (·.k), x = tipOf k.1 := by
  simp only [ids8, idOf8, List.mem_map]
  constructor
  · rintro ⟨e, he, rfl⟩; exact ⟨_, ⟨e, he, rfl⟩, rfl⟩
  · rintro ⟨k, ⟨e, he, rfl⟩, rfl⟩; exact ⟨e, he, rfl⟩
theorem ids_sub {m m' : St8} (h : ∀ k ∈ m.l.map (·.k), k ∈ m'.l.map (·.k)) {ts ts' : List (Nat → Int)} (h1 : SetOf (ids8 m) ts) (h2 : SetOf (ids8 m') ts') : ∀ x ∈ ts, x ∈ ts' := fun x hx => by
  obtain ⟨k, hk, rfl⟩ := ids_key.1 ((h1.2 x).1 hx)
  exact (h2.2 _).2 (ids_key.2 ⟨k, h k hk, rfl⟩)
theorem ids_len_le {m m' : St8} (hm : StOk m) (h : ∀ k ∈ m.l.map (·.k), k ∈ m'.l.map (·.k)) {ts ts' : List (Nat → Int)} (h1 : SetOf (ids8 m) ts) (h2 : SetOf (ids8 m') ts') : ts.length ≤ ts'.length := by
  have h3 := srt_nodup h1.1
  have h4 := ids_sub h h1 h2
  classical exact nodup_le h3 h4

theorem c_puts8 (p : Nat) (Tv : Value) (T : List BSl) (HX : Mem) (w : World) (hbT : Rdx 1 (bsC) ((0, .cells (wfV 8 (s8f shaB)).cells 151 (0, 0)) :: (1, .cells (wfV 64 (gtf shaK)).cells 286 (0, 0)) :: HX) Tv T) (hbkT : BsOk ((0, .cells (wfV 8 (s8f shaB)).cells 151 (0, 0)) :: (1, .cells (wfV 64 (gtf shaK)).cells 286 (0, 0)) :: HX) T) (hlT : T.length ≤ 1000000) (hsT : ∀ x ∈ T, x.b.length ≤ 1000000) (hH : Hp ((0, .cells (wfV 8 (s8f shaB)).cells 151 (0, 0)) :: (1, .cells (wfV 64 (gtf shaK)).cells 286 (0, 0)) :: HX) w) : Calls Tryz.prog 78 #[.pointer (some ⟨p, 0, none⟩), Tv] w (Ret w [] fun v H1 => ∃ x1 x2, v = .func (.func 144) #[] #[.pointer (some ⟨x1, 0, none⟩), .pointer (some ⟨x2, 0, none⟩)] ∧ H1 = [(x1, .cells #[Tv] 24 (0, 0)), (x2, .cells #[.pointer (some ⟨p, 0, none⟩)] 28 (0, 0))]) := by
 refine fn_enter (args := [_, _]) func78 rfl ntmps78 rfl hH (sq (pl (TE_boxC #[.pointer (some ⟨p, 0, none⟩)] rfl rfl rfl trivial rfl fun b2 hb2 => (TE_boxC #[Tv] rfl rfl (by obtain ⟨_, _, h⟩ := (hbT).shape; rw [h] <;> rfl) trivial rfl fun b3 hb3 => (qa rfl (n0 (sq (pl (qq rfl (RD.makeFunc rfl rfl) ?_)))))))))
 exact qa rfl (n0 (rt (dS [(b3, .cells #[Tv] 24 (0, 0)), (b2, .cells #[.pointer (some ⟨p, 0, none⟩)] 28 (0, 0))] rfl rfl ⟨b3, b2, rfl, rfl⟩ (ownC (.inl hb3) (ownC (.inl hb2) own0)))))
theorem c_stPutAll (s : Nat) (mb : Nat) (m : St8) (Tv : Value) (T : List BSl) (HX : Mem) (w : World) (hst : StOk m) (hbT : Rdx 1 (bsC) ((0, .cells (wfV 8 (s8f shaB)).cells 151 (0, 0)) :: (1, .cells (wfV 64 (gtf shaK)).cells 286 (0, 0)) :: HX) Tv T) (hbkT : BsOk ((0, .cells (wfV 8 (s8f shaB)).cells 151 (0, 0)) :: (1, .cells (wfV 64 (gtf shaK)).cells 286 (0, 0)) :: HX) T) (hlT : T.length ≤ 1000000) (hsT : ∀ x ∈ T, x.b.length ≤ 1000000) (hlm : m.l.length + T.length < 1000000) (hH : Hp ((s, .cells #[.int .i64 m.q, .int .i64 m.sz, .map (some mb)] 69 (0, 0)) :: (mb, mapO keyV en8V m.l m.c) :: (0, .cells (wfV 8 (s8f shaB)).cells 151 (0, 0)) :: (1, .cells (wfV 64 (gtf shaK)).cells 286 (0, 0)) :: HX) w) : Calls Tryz.prog 22 #[.pointer (some ⟨s, 0, none⟩), Tv] w (Ret w (keys [(s, .cells #[.int .i64 m.q, .int .i64 m.sz, .map (some mb)] 69 (0, 0)), (mb, mapO keyV en8V m.l m.c)]) fun v H1 => ∃ mb', v = .tuple #[.int .i64 ((putAll8 m T).2.1 : Int), .int .i64 (putAll8 m T).2.2] ∧ H1 = [(s, .cells #[.int .i64 ((putAll8 m T).1).q, .int .i64 ((putAll8 m T).1).sz, .map (some mb')] 69 (0, 0)), (mb', mapO keyV en8V ((putAll8 m T).1).l ((putAll8 m T).1).c)]) := by
 refine fn_enter (args := [_, _]) func22 rfl ntmps22 rfl hH (sq (pl (qa rfl (qa rfl (n0 (pn_scope (sq (pl (qm rfl ?_)))))))))
 refine cG rfl call36 (fun w hw => c_stCopy s mb m w hst hw.s) ?_
 rintro v4 H5 ⟨s1, mb2, rfl, rfl⟩ hX3
 refine tsp ((s1, .cells #[.int .i64 m.q, .int .i64 m.sz, .map (some mb2)] 69 (0, 0)) :: (mb2, mapO keyV en8V m.l m.c) :: (s, .cells #[.int .i64 m.q, .int .i64 m.sz, .map (some mb)] 69 (0, 0)) :: (mb, mapO keyV en8V m.l m.c) :: (0, .cells (wfV 8 (s8f shaB)).cells 151 (0, 0)) :: (1, .cells (wfV 64 (gtf shaK)).cells 286 (0, 0)) :: HX) (qa rfl (n0 (sq (sq (pl (qm rfl (qq rfl (RD.as (v := .bool false) (RD.ptr_eql_nil runUnderlying28 rfl rfl) rfl) (n0 (pn_condF rfl ?_)))))))))
 refine sk (sq (pn_plain [1] rfl (qm rfl (qq rfl (RD.lenX runUnderlying24 rfl hbT) (TE_allocC #[.int .i64 0] rfl zeroValue3 rfl trivial rfl fun b7 hb7 => (TE_allocC #[.int .i64 0] rfl zeroValue29 rfl trivial rfl fun b8 hb8 => (TE_storeC 1 _ _ ((b8, .cells #[.int .i64 0] 29 (0, 0)) :: (b7, .cells #[.int .i64 (T.length : Int)] 3 (0, 0)) :: (s1, .cells #[.int .i64 m.q, .int .i64 m.sz, .map (some mb2)] 69 (0, 0)) :: (mb2, mapO keyV en8V m.l m.c) :: (s, .cells #[.int .i64 m.q, .int .i64 m.sz, .map (some mb)] 69 (0, 0)) :: (mb, mapO keyV en8V m.l m.c) :: (0, .cells (wfV 8 (s8f shaB)).cells 151 (0, 0)) :: (1, .cells (wfV 64 (gtf shaK)).cells 286 (0, 0)) :: HX) rfl sizeOf3 trivial rfl rfl rfl rfl rfl rfl rfl rfl (.inl hb7) (TE_storeC 0 _ _ ((b8, .cells #[.int .i64 0] 29 (0, 0)) :: (b7, .cells #[.int .i64 (T.length : Int)] 3 (0, 0)) :: (s1, .cells #[.int .i64 m.q, .int .i64 m.sz, .map (some mb2)] 69 (0, 0)) :: (mb2, mapO keyV en8V m.l m.c) :: (s, .cells #[.int .i64 m.q, .int .i64 m.sz, .map (some mb)] 69 (0, 0)) :: (mb, mapO keyV en8V m.l m.c) :: (0, .cells (wfV 8 (s8f shaB)).cells 151 (0, 0)) :: (1, .cells (wfV 64 (gtf shaK)).cells 286 (0, 0)) :: HX) rfl sizeOf29 trivial rfl rfl rfl rfl rfl rfl rfl rfl (.inl hb8) (n0 ?_)))))))))
 refine sq (pn_label (sq (sq (pl (qm rfl (qm rfl (cG rfl call78 (fun w hw => c_puts8 s1 Tv T HX w hbT.s hbkT.s hlT hsT hw.s) ?_)))))))
 rintro v9 H10 ⟨x6, x7, rfl, rfl⟩ hX8
 refine tsp ((x6, .cells #[Tv] 24 (0, 0)) :: (x7, .cells #[.pointer (some ⟨s1, 0, none⟩)] 28 (0, 0)) :: (b8, .cells #[.int .i64 0] 29 (0, 0)) :: (b7, .cells #[.int .i64 (T.length : Int)] 3 (0, 0)) :: (s1, .cells #[.int .i64 m.q, .int .i64 m.sz, .map (some mb2)] 69 (0, 0)) :: (mb2, mapO keyV en8V m.l m.c) :: (s, .cells #[.int .i64 m.q, .int .i64 m.sz, .map (some mb)] 69 (0, 0)) :: (mb, mapO keyV en8V m.l m.c) :: (0, .cells (wfV 8 (s8f shaB)).cells 151 (0, 0)) :: (1, .cells (wfV 64 (gtf shaK)).cells 286 (0, 0)) :: HX) (n0 (pn_block (pn_rangeC (τ := Unit) (HI := [(x6, .cells #[Tv] 24 (0, 0)), (x7, .cells #[.pointer (some ⟨s1, 0, none⟩)] 28 (0, 0)), (s1, .cells #[.int .i64 m.q, .int .i64 m.sz, .map (some mb2)] 69 (0, 0)), (mb2, mapO keyV en8V m.l m.c)]) (HC := ((0, .cells (wfV 8 (s8f shaB)).cells 151 (0, 0)) :: (1, .cells (wfV 64 (gtf shaK)).cells 286 (0, 0)) :: HX)) (HR := ((s, .cells #[.int .i64 m.q, .int .i64 m.sz, .map (some mb)] 69 (0, 0)) :: (mb, mapO keyV en8V m.l m.c) :: (0, .cells (wfV 8 (s8f shaB)).cells 151 (0, 0)) :: (1, .cells (wfV 64 (gtf shaK)).cells 286 (0, 0)) :: HX)) (it_puts x6 x7 s1 mb2 m T Tv HX hst hbT hbkT hlm hsT) (List.Sublist.cons _ (List.Sublist.cons _ (List.Sublist.cons_cons _ (List.Sublist.cons_cons _ (List.Sublist.refl _))))) (fun (q : Int × Int) => [(b7, .cells #[.int .i64 q.1] 3 (0, 0)), (b8, .cells #[.int .i64 q.2] 29 (0, 0))]) (fun pre (q : Int × Int) => (q.1 = (T.length : Int)) ∧ (q.2 = 0) ∧ (∀ y ∈ pre, y.2 = 0)) (fun c pre (q : Int × Int) => c = .exit 0 ∧ ((putAll8 m T).1 = m ∧ q.1 = ((putAll8 m T).2.1 : Int) ∧ q.2 = (putAll8 m T).2.2 ∧ ¬ q.2 = 0)) ((T.length : Int), 0) ⟨rfl, rfl, (fun y hy => nomatch hy)⟩ rfl call144 (by intro x; rfl) rfl (fun w h => h.sp (fun a => by simp -failIfUnchanged <;> omega)) (by show ∀ e ∈ ([(x6, .cells #[Tv] 24 (0, 0)), (x7, .cells #[.pointer (some ⟨s1, 0, none⟩)] 28 (0, 0)), (s1, .cells #[.int .i64 m.q, .int .i64 m.sz, .map (some mb2)] 69 (0, 0)), (mb2, mapO keyV en8V m.l m.c)] ++ [(b7, .cells #[.int .i64 (T.length : Int)] 3 (0, 0)), (b8, .cells #[.int .i64 0] 29 (0, 0))] : Mem), _; exact (ownA (ownC (.inl (hX8 _ List.mem_cons_self)) (ownC (.inl (hX8 _ (List.mem_cons_of_mem _ List.mem_cons_self))) (ownC (.inl (hX3 _ List.mem_cons_self)) (ownC (.inl (hX3 _ (List.mem_cons_of_mem _ List.mem_cons_self))) own0)))) (ownC (.inl hb7) (ownC (.inl hb8) own0)))) (fun x _ => [(7, .pointer (some ⟨b7, 0, none⟩)), (8, .pointer (some ⟨b8, 0, none⟩)), (9, .int .i64 (x.1 : Int)), (10, .int .i64 x.2), (20, .int .i64 (x.1 : Int)), (21, .int .i64 x.2)]) (fun _ _ => []) (fun _ _ => True) ?_ ?_ ?_ ?_)))
 ·intro W l1 pre x q R hW hG hpre
  exact sq (pl (qa rfl (n0 (pl (qa rfl (n0 (fun a w hr hs => ⟨(), trivial, hr.keeps ⟨rfl, rfl, rfl, rfl, rfl, rfl, trivial⟩, hs⟩)))))))
 ·rintro W l1 pre x ⟨n, ez⟩ _ R hW ⟨hn, he, hz⟩ hpre -
  dsimp only at hn he hz ⊢
  refine pn_block (sq (plG [] ((b7, .cells #[.int .i64 n] 3 (0, 0)) :: (b8, .cells #[.int .i64 ez] 29 (0, 0)) :: (s, .cells #[.int .i64 m.q, .int .i64 m.sz, .map (some mb)] 69 (0, 0)) :: (mb, mapO keyV en8V m.l m.c) :: (0, .cells (wfV 8 (s8f shaB)).cells 151 (0, 0)) :: (1, .cells (wfV 64 (gtf shaK)).cells 286 (0, 0)) :: (HX ++ R)) (qm rfl (qq rfl (RD.neq rfl rfl) (n0 (pn_condN rfl (fun hc11 => ?_) (fun hc11 => ?_)))))))
  ·exact sq (pl (qm rfl (qm rfl (TE_storeC 0 _ _ ((b7, .cells #[.int .i64 (x.1 : Int)] 3 (0, 0)) :: (b8, .cells #[.int .i64 ez] 29 (0, 0)) :: (s, .cells #[.int .i64 m.q, .int .i64 m.sz, .map (some mb)] 69 (0, 0)) :: (mb, mapO keyV en8V m.l m.c) :: (0, .cells (wfV 8 (s8f shaB)).cells 151 (0, 0)) :: (1, .cells (wfV 64 (gtf shaK)).cells 286 (0, 0)) :: (HX ++ R)) rfl sizeOf3 trivial rfl rfl rfl rfl rfl rfl rfl rfl (.inr (by simp [keys])) (TE_storeC 1 _ _ ((b7, .cells #[.int .i64 (x.1 : Int)] 3 (0, 0)) :: (b8, .cells #[.int .i64 x.2] 29 (0, 0)) :: (s, .cells #[.int .i64 m.q, .int .i64 m.sz, .map (some mb)] 69 (0, 0)) :: (mb, mapO keyV en8V m.l m.c) :: (0, .cells (wfV 8 (s8f shaB)).cells 151 (0, 0)) :: (1, .cells (wfV 64 (gtf shaK)).cells 286 (0, 0)) :: (HX ++ R)) rfl sizeOf29 trivial rfl rfl rfl rfl rfl rfl rfl rfl (.inr (by simp [keys])) (n0 (xt (pn_endR (G := fun (q : Int × Int) => (Code.exit 0) = .exit 0 ∧ ((putAll8 m T).1 = m ∧ q.1 = ((putAll8 m T).2.1 : Int) ∧ q.2 = (putAll8 m T).2.2 ∧ ¬ q.2 = 0)) (σ := Int × Int) (HJ := (fun (q : Int × Int) => [(b7, .cells #[.int .i64 q.1] 3 (0, 0)), (b8, .cells #[.int .i64 q.2] 29 (0, 0))])) (s := (n, ez)) (l := l1) (R := R) ((x.1 : Int), x.2) rfl ⟨rfl, (show (putAll8 m T).1 = m ∧ (x.1 : Int) = ((putAll8 m T).2.1 : Int) ∧ x.2 = (putAll8 m T).2.2 ∧ ¬ x.2 = 0 from (by rw [putAll_stop hpre hz hc11]; exact ⟨rfl, rfl, rfl, hc11⟩))⟩ (fun w h => h.sp (fun a => by simp -failIfUnchanged <;> omega)) (by intro e he; refine Or.inl (?_ : e.1 ∈ keys [(b7, .cells #[.int .i64 n] 3 (0, 0)), (b8, .cells #[.int .i64 ez] 29 (0, 0))]); simp only [keys, List.map_cons, List.map_nil, List.mem_cons, List.not_mem_nil, or_false] at he ⊢; rcases he with rfl | rfl <;> simp)))))))))
  ·exact sk (pn_endR  (σ := Int × Int) (HJ := (fun (q : Int × Int) => [(b7, .cells #[.int .i64 q.1] 3 (0, 0)), (b8, .cells #[.int .i64 q.2] 29 (0, 0))])) (s := (n, ez)) (l := l1) (R := R) (n, ez) rfl ⟨(show n = (T.length : Int) from hn), (show ez = 0 from he), (show ∀ y ∈ (pre ++ [x]), y.2 = 0 from (fun y hy => (List.mem_append.1 hy).elim (hz y) fun h => by rw [List.mem_singleton] at h; subst h; exact hc11))⟩ (fun w h => h.sp (fun a => by simp -failIfUnchanged <;> omega)) (by intro e he; refine Or.inl (?_ : e.1 ∈ keys [(b7, .cells #[.int .i64 n] 3 (0, 0)), (b8, .cells #[.int .i64 ez] 29 (0, 0))]); simp only [keys, List.map_cons, List.map_nil, List.mem_cons, List.not_mem_nil, or_false] at he ⊢; rcases he with rfl | rfl <;> simp))
 ·rintro D HI' ⟨n, ez⟩ hD ⟨hn, he, hz⟩ rfl
  dsimp only at hn he hz ⊢
  refine sq (sq (plG [] ((b7, .cells #[.int .i64 n] 3 (0, 0)) :: (b8, .cells #[.int .i64 ez] 29 (0, 0)) :: (s1, .cells #[.int .i64 ((mdl8 m T (putXs m T).length).q), .int .i64 ((mdl8 m T (putXs m T).length).sz), .map (some mb2)] 69 (0, 0)) :: (mb2, mapO keyV en8V ((mdl8 m T (putXs m T).length).l) ((mdl8 m T (putXs m T).length).c)) :: (D, .deferred (some [])) :: (s, .cells #[.int .i64 m.q, .int .i64 m.sz, .map (some mb)] 69 (0, 0)) :: (mb, mapO keyV en8V m.l m.c) :: (0, .cells (wfV 8 (s8f shaB)).cells 151 (0, 0)) :: (1, .cells (wfV 64 (gtf shaK)).cells 286 (0, 0)) :: HX) (ql rfl (RD.load (i := 1) isAgg29 rfl rfl rfl) (qq rfl (RD.eql rfl rfl) (n0 (pn_condD rfl (fun hc12 => ?_) (fun hc12 => ?_)))))))
  ·refine pl (qm rfl (qm rfl (qn rfl (ql rfl (RD.loadA (i := 2) (v := .agg #[.int .i64 ((mdl8 m T (putXs m T).length).q), .int .i64 ((mdl8 m T (putXs m T).length).sz), .map (some mb2)]) isAgg69 sizeOf69 rfl rfl (Nat.le_of_ble_eq_true rfl) rfl) (qn rfl (TE_putCW 5 _ _ ((b7, .cells #[.int .i64 n] 3 (0, 0)) :: (b8, .cells #[.int .i64 ez] 29 (0, 0)) :: (s1, .cells #[.int .i64 ((mdl8 m T (putXs m T).length).q), .int .i64 ((mdl8 m T (putXs m T).length).sz), .map (some mb2)] 69 (0, 0)) :: (mb2, mapO keyV en8V ((mdl8 m T (putXs m T).length).l) ((mdl8 m T (putXs m T).length).c)) :: (D, .deferred (some [])) :: (s, .cells #[.int .i64 ((mdl8 m T (putXs m T).length).q), .int .i64 ((mdl8 m T (putXs m T).length).sz), .map (some mb2)] 69 (0, 0)) :: (mb, mapO keyV en8V m.l m.c) :: (0, .cells (wfV 8 (s8f shaB)).cells 151 (0, 0)) :: (1, .cells (wfV 64 (gtf shaK)).cells 286 (0, 0)) :: HX) rfl sizeOf69 trivial rfl rfl rfl rfl rfl rfl rfl rfl (.inr (by simp [keys])) (n0 (sq (dG [0, 1] [] ((b7, .cells #[.int .i64 n] 3 (0, 0)) :: (b8, .cells #[.int .i64 ez] 29 (0, 0)) :: (s1, .cells #[.int .i64 ((mdl8 m T (putXs m T).length).q), .int .i64 ((mdl8 m T (putXs m T).length).sz), .map (some mb2)] 69 (0, 0)) :: (mb2, mapO keyV en8V ((mdl8 m T (putXs m T).length).l) ((mdl8 m T (putXs m T).length).c)) :: (D, .deferred (some [])) :: (s, .cells #[.int .i64 ((mdl8 m T (putXs m T).length).q), .int .i64 ((mdl8 m T (putXs m T).length).sz), .map (some mb2)] 69 (0, 0)) :: (mb, mapO keyV en8V m.l m.c) :: (0, .cells (wfV 8 (s8f shaB)).cells 151 (0, 0)) :: (1, .cells (wfV 64 (gtf shaK)).cells 286 (0, 0)) :: HX) ?_)))))))))
   refine qq rfl (RD.load (i := 0) isAgg3 rfl rfl rfl) (qq rfl (RD.load (i := 1) isAgg29 rfl rfl rfl) (qa rfl (qa rfl (TE_nil (rt ?_)))))
   have hpa := putAll_done hz
   exact pn_doneFC D ((b7, .cells #[.int .i64 n] 3 (0, 0)) :: (b8, .cells #[.int .i64 ez] 29 (0, 0)) :: (s1, .cells #[.int .i64 ((mdl8 m T (putXs m T).length).q), .int .i64 ((mdl8 m T (putXs m T).length).sz), .map (some mb2)] 69 (0, 0)) :: (mb2, mapO keyV en8V ((mdl8 m T (putXs m T).length).l) ((mdl8 m T (putXs m T).length).c)) :: (s, .cells #[.int .i64 ((mdl8 m T (putXs m T).length).q), .int .i64 ((mdl8 m T (putXs m T).length).sz), .map (some mb2)] 69 (0, 0)) :: (mb, mapO keyV en8V m.l m.c) :: (0, .cells (wfV 8 (s8f shaB)).cells 151 (0, 0)) :: (1, .cells (wfV 64 (gtf shaK)).cells 286 (0, 0)) :: HX) (fun a => by simp -failIfUnchanged <;> omega) rfl ⟨_, _, rfl, rfl, ⟨_, _, rfl, rfl, rfl⟩⟩ ⟨mb2, (by rw [hpa, hn, he] <;> rfl), (show ([(s, .cells #[.int .i64 ((mdl8 m T (putXs m T).length).q), .int .i64 ((mdl8 m T (putXs m T).length).sz), .map (some mb2)] 69 (0, 0)), (mb2, mapO keyV en8V ((mdl8 m T (putXs m T).length).l) ((mdl8 m T (putXs m T).length).c))] : Mem) = _ from by rw [hpa, putXs_len] <;> rfl)⟩ sb (fun e he => Or.symm ((ownC (.inr (by simp [keys])) (ownC (.inl (hX3 _ (List.mem_cons_of_mem _ List.mem_cons_self))) own0)) e he)) hD
  ·exfalso
   exact hc12 he
 ·rintro D HI' c pre ⟨n, ez⟩ hD hpre ⟨rfl, hq⟩ rfl
  dsimp only at hq ⊢
  refine xt (sq (sq (plG [] ((b7, .cells #[.int .i64 n] 3 (0, 0)) :: (b8, .cells #[.int .i64 ez] 29 (0, 0)) :: (s1, .cells #[.int .i64 ((mdl8 m T pre.length).q), .int .i64 ((mdl8 m T pre.length).sz), .map (some mb2)] 69 (0, 0)) :: (mb2, mapO keyV en8V ((mdl8 m T pre.length).l) ((mdl8 m T pre.length).c)) :: (D, .deferred (some [])) :: (s, .cells #[.int .i64 m.q, .int .i64 m.sz, .map (some mb)] 69 (0, 0)) :: (mb, mapO keyV en8V m.l m.c) :: (0, .cells (wfV 8 (s8f shaB)).cells 151 (0, 0)) :: (1, .cells (wfV 64 (gtf shaK)).cells 286 (0, 0)) :: HX) (ql rfl (RD.load (i := 1) isAgg29 rfl rfl rfl) (qq rfl (RD.eql rfl rfl) (n0 (pn_condD rfl (fun hc13 => ?_) (fun hc13 => ?_))))))))
  ·exfalso
   exact hq.2.2.2 hc13
  ·exact sk (sq (dG [0, 1] [] ((b7, .cells #[.int .i64 n] 3 (0, 0)) :: (b8, .cells #[.int .i64 ez] 29 (0, 0)) :: (s1, .cells #[.int .i64 ((mdl8 m T pre.length).q), .int .i64 ((mdl8 m T pre.length).sz), .map (some mb2)] 69 (0, 0)) :: (mb2, mapO keyV en8V ((mdl8 m T pre.length).l) ((mdl8 m T pre.length).c)) :: (D, .deferred (some [])) :: (s, .cells #[.int .i64 m.q, .int .i64 m.sz, .map (some mb)] 69 (0, 0)) :: (mb, mapO keyV en8V m.l m.c) :: (0, .cells (wfV 8 (s8f shaB)).cells 151 (0, 0)) :: (1, .cells (wfV 64 (gtf shaK)).cells 286 (0, 0)) :: HX) (qq rfl (RD.load (i := 0) isAgg3 rfl rfl rfl) (qq rfl (RD.load (i := 1) isAgg29 rfl rfl rfl) (qa rfl (qa rfl (TE_nil (rt (pn_doneFC D ((b7, .cells #[.int .i64 n] 3 (0, 0)) :: (b8, .cells #[.int .i64 ez] 29 (0, 0)) :: (s1, .cells #[.int .i64 ((mdl8 m T pre.length).q), .int .i64 ((mdl8 m T pre.length).sz), .map (some mb2)] 69 (0, 0)) :: (mb2, mapO keyV en8V ((mdl8 m T pre.length).l) ((mdl8 m T pre.length).c)) :: (s, .cells #[.int .i64 m.q, .int .i64 m.sz, .map (some mb)] 69 (0, 0)) :: (mb, mapO keyV en8V m.l m.c) :: (0, .cells (wfV 8 (s8f shaB)).cells 151 (0, 0)) :: (1, .cells (wfV 64 (gtf shaK)).cells 286 (0, 0)) :: HX) (fun a => by simp -failIfUnchanged <;> omega) rfl ⟨_, _, rfl, rfl, ⟨_, _, rfl, rfl, rfl⟩⟩ ⟨mb, (by rw [hq.2.1, hq.2.2.1] <;> rfl), (by rw [hq.1])⟩ sb (fun e he => Or.symm ((ownC (.inr (by simp [keys])) (ownC (.inr (by simp [keys])) own0)) e he)) hD)))))))))
end Go.Proofs.YtcmnmigcalibdaaGreatDoor
