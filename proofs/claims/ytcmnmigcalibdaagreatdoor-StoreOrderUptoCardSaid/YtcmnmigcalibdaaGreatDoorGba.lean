import Derived.Test.YtcmnmigcalibdaaGreatDoorGaz
namespace Go.Proofs.YtcmnmigcalibdaaGreatDoor
open Go.Proofs.Tryz
open Go Go.Mv
set_option maxRecDepth 8000
/-- What putting several leaves, how many, the error. -/
def putAll8 (m : St8) (T : List BSl) : St8 × Nat × Int := match (putXs m T).find? (fun x => !decide (x.2 = 0)) with
  | some x => (m, x)
  | none => (mdl8 m T T.length, T.length, 0)
theorem putAll_stop {m : St8} {T : List BSl} {pre : List (Nat × Int)} {x : Nat × Int} (hp : (pre ++ [x]) <+: putXs m T) (h0 : ∀ y ∈ pre, y.2 = 0) (hx : ¬ x.2 = 0) : putAll8 m T = (m, x) := by
  obtain ⟨r, hr⟩ := hp
  have h1 : pre.find? (fun x => !decide (x.2 = 0)) = none := List.find?_eq_none.2 fun y hy => by simp [h0 y hy]
  rw [putAll8, ← hr, List.append_assoc, List.find?_append, h1]
  simp [hx]
theorem putAll_done {m : St8} {T : List BSl} (h0 : ∀ y ∈ putXs m T, y.2 = 0) : putAll8 m T = (mdl8 m T T.length, T.length, 0) := by
  rw [putAll8, List.find?_eq_none.2 fun y hy => by simp [h0 y hy]]
theorem puts8_ok : ∀ {bs : List (List UInt8)} {m : St8}, StOk m → m.l.length + bs.length < 1000000 → (∀ b ∈ bs, b.length ≤ 1000000) → StOk (puts8 m bs)
  | [], _, h, _, _ => h
  | b :: bs, m, h, hn, hb => by
    simp only [List.length_cons] at hn
    have h1 := put8_len (m := m) (b := b)
    exact puts8_ok (bs := bs) (m := (put8 m b).1) (put8_ok h (by omega) (hb b List.mem_cons_self)) (by omega) (fun c hc => hb c (List.mem_cons_of_mem _ hc))
theorem mdl8_ok {m : St8} {T : List BSl} {i : Nat} (h : StOk m) (hn : m.l.length + T.length < 1000000) (hb : ∀ x ∈ T, x.b.length ≤ 1000000) : StOk (mdl8 m T i) :=
  puts8_ok h (by simp only [List.length_map, List.length_take]; omega) fun b hb' => by
    obtain ⟨x, hx, rfl⟩ := List.mem_map.1 hb'
    exact hb x (List.mem_of_mem_take hx)
theorem putAll_ok {m : St8} {T : List BSl} (h : StOk m) (hn : m.l.length + T.length < 1000000) (hb : ∀ x ∈ T, x.b.length ≤ 1000000) : StOk (putAll8 m T).1 := by
  unfold putAll8; split
  · exact h
  · exact mdl8_ok h hn hb
theorem perm_sum {l l' : List Int} (h : l.Perm l') : l.sum = l'.sum := by
  induction h with
  | nil => rfl
  | cons _ _ ih => simp [ih]
  | swap => simp; omega
  | trans _ _ h1 h2 => exact h1.trans h2
def vsz (l : List (ME Key En8)) : Int := (l.map (fun e => (e.v.raw.size : Int))).sum
/-- What a store is when these texts were put, that have all room. -/
structure PutI (D : List BSl) (m : St8) : Prop where
  st : StOk m
  q : m.q = 1073741824
  n : m.l.length ≤ D.length
  t : ∀ e ∈ m.l, ∃ x ∈ D, e.v = x8 x.b ∧ e.k = k8 x.b
  h : ∀ x ∈ D, k8 x.b ∈ m.l.map (·.k)
  z : m.sz = vsz m.l
  zl : m.sz ≤ 4100 * D.length
theorem putI_start (h : StOk ⟨1073741824, 0, [], 0⟩) : PutI [] ⟨1073741824, 0, [], 0⟩ := ⟨h, rfl, Nat.le_refl _, (fun e he => nomatch he), (fun x hx => nomatch hx), rfl, Int.le_refl _⟩
theorem putI_put {T D : List BSl} {m : St8} {x : BSl} (hI : PutI D m) (hD : ∀ y ∈ D, y ∈ T) (hx : x ∈ T) (hcl : clashB T = false) (hk : ¬ kindM x.b = 0) (hb : x.b.length ≤ 4100) (hn : D.length < 10000) : (put8 m x.b).2.2 = 0 ∧ PutI (D ++ [x]) (put8 m x.b).1 := by
  have hst := put8_ok (b := x.b) hI.st (by have := hI.n; omega) (by omega)
  have hx' : x ∈ D ++ [x] := List.mem_append_right _ List.mem_cons_self
  have hl : (D ++ [x]).length = D.length + 1 := by simp
  cases hh : has8 m (k8 x.b) with
  | true =>
    have hs : get8 m (k8 x.b) = x8 x.b := by
      unfold has8 at hh
      unfold get8
      cases hm : mget (k8 x.b) m.l with
      | none => rw [hm] at hh; cases hh
      | some v =>
        obtain ⟨e, he, hke, rfl⟩ := mget_mem hm
        obtain ⟨y, hy, h1, h2⟩ := hI.t e he
        have : y.b = x.b := no_clash hcl (hD y hy) hx (h2.symm.trans hke)
        rw [Option.getD_some, h1, this]
    have e := put8_is (m := m) hk hh (by rw [hs]; exact same_en8_self _)
    rw [e] at hst ⊢
    refine ⟨rfl, hst, hI.q, by rw [hl]; exact Nat.le_succ_of_le hI.n, fun e he => ?_, fun y hy => ?_, hI.z, by rw [hl]; have := hI.zl; show m.sz ≤ _; omega⟩
    · obtain ⟨y, hy, h⟩ := hI.t e he; exact ⟨y, List.mem_append_left _ hy, h⟩
    · rcases List.mem_append.1 hy with hy | hy
      · exact hI.h y hy
      · simp only [List.mem_cons, List.not_mem_nil, or_false] at hy; subst hy; exact mget_isSome.1 hh
  | false =>
    have e := put8_new (m := m) hk hh (by have := hI.q; have := hI.zl; omega)
    have hm : mpos (k8 x.b) m.l 0 = none := by
      unfold has8 mget at hh; cases h9 : mpos (k8 x.b) m.l 0 with
      | none => rfl
      | some p => rw [h9] at hh; cases hh
    have em : (mput (k8 x.b) (x8 x.b) m.l m.c).1 = m.l ++ [⟨k8 x.b, x8 x.b, m.c⟩] := by unfold mput; rw [hm]
    rw [e] at hst ⊢
    refine ⟨rfl, hst, hI.q, ?_, fun e he => ?_, fun y hy => ?_, ?_, ?_⟩
    · show (mput (k8 x.b) (x8 x.b) m.l m.c).1.length ≤ _
      rw [em, hl]; simpa using hI.n
    · rcases mput_mem he with h | h
      · exact ⟨x, hx', h⟩
      · obtain ⟨y, hy, h⟩ := hI.t e h; exact ⟨y, List.mem_append_left _ hy, h⟩
    · show _ ∈ (mput (k8 x.b) (x8 x.b) m.l m.c).1.map (·.k)
      rw [em, List.map_append]
      rcases List.mem_append.1 hy with hy | hy
      · exact List.mem_append_left _ (hI.h y hy)
      · simp only [List.mem_cons, List.not_mem_nil, or_false] at hy; subst hy; exact List.mem_append_right _ List.mem_cons_self
    · show m.sz + _ = vsz (mput (k8 x.b) (x8 x.b) m.l m.c).1
      rw [em, vsz, List.map_append, List.sum_append, hI.z, vsz]
      simp [x8_size]
    · show m.sz + _ ≤ _
      rw [hl]; have := hI.zl; omega
theorem kv_mem {T D : List BSl} {m : St8} (hI : PutI D m) (hD : ∀ y ∈ D, y ∈ T) (hcl : clashB T = false) (p : Key × En8) : p ∈ m.l.map (fun e => (e.k, e.v)) ↔ ∃ x ∈ D, p = (k8 x.b, x8 x.b) := by
  constructor
  · intro h
    obtain ⟨e, he, rfl⟩ := List.mem_map.1 h
    obtain ⟨x, hx, h1, h2⟩ := hI.t e he
    exact ⟨x, hx, by rw [h1, h2]⟩
  · rintro ⟨x, hx, rfl⟩
    obtain ⟨e, he, hk⟩ := List.mem_map.1 (hI.h x hx)
    obtain ⟨y, hy, h1, h2⟩ := hI.t e he
    have : y.b = x.b := no_clash hcl (hD y hy) (hD x hx) (h2.symm.trans hk)
    exact List.mem_map.2 ⟨e, he, by rw [h1, h2, this]⟩
theorem kv_nodup {m : St8} (h : StOk m) : (m.l.map (fun e => (e.k, e.v))).Nodup := by
  rw [List.nodup_iff_pairwise_ne]
  exact List.pairwise_map.2 (h.ok.ks.imp fun {a b} hab he => hab (Prod.mk.inj he).1)
theorem kv_perm {T D D' : List BSl} {m m' : St8} (hI : PutI D m) (hI' : PutI D' m') (hD : ∀ y ∈ D, y ∈ T) (hD' : ∀ y, y ∈ D' ↔ y ∈ D) (hcl : clashB T = false) : (m.l.map (fun e => (e.k, e.v))).Perm (m'.l.map (fun e => (e.k, e.v))) :=
  (List.perm_ext_iff_of_nodup (kv_nodup hI.st) (kv_nodup hI'.st)).2 fun p => by
    rw [kv_mem hI hD hcl, kv_mem hI' (fun y hy => hD y ((hD' y).1 hy)) hcl]
    simp only [hD']
theorem order_ids {T D D' : List BSl} {m m' : St8} (hI : PutI D m) (hI' : PutI D' m') (hD : ∀ y ∈ D, y ∈ T) (hD' : ∀ y, y ∈ D' ↔ y ∈ D) (hcl : clashB T = false) {ts ts' : List (Nat → Int)} (h : SetOf (ids8 m) ts) (h' : SetOf (ids8 m') ts') : ts = ts' := by
  refine h.uniq (h'.congr fun x => ?_)
  have hp := kv_perm hI hI' hD hD' hcl
  have e : ∀ m : St8, ids8 m = (m.l.map (fun e => (e.k, e.v))).map (fun p => tipOf p.1.1) := fun m => by simp [ids8, idOf8]
  rw [e m, e m']
  exact (hp.map _).mem_iff.symm
theorem order_sz {T D D' : List BSl} {m m' : St8} (hI : PutI D m) (hI' : PutI D' m') (hD : ∀ y ∈ D, y ∈ T) (hD' : ∀ y, y ∈ D' ↔ y ∈ D) (hcl : clashB T = false) : m.sz = m'.sz := by
  rw [hI.z, hI'.z]
  have hp := kv_perm hI hI' hD hD' hcl
  have e : ∀ l : List (ME Key En8), vsz l = ((l.map (fun e => (e.k, e.v))).map (fun p => (p.2.raw.size : Int))).sum := fun l => by simp [vsz, Function.comp_def]
  rw [e, e]
  exact perm_sum (hp.map _)
/-- What has room all is put all. -/
theorem putI_all {T : List BSl} (hcl : clashB T = false) : ∀ {D R : List BSl} {m : St8}, PutI D m → (∀ y ∈ D ++ R, y ∈ T) → (∀ y ∈ R, ¬ kindM y.b = 0 ∧ y.b.length ≤ 4100) → D.length + R.length < 10000 → (∀ y ∈ putXs m R, y.2 = 0) ∧ PutI (D ++ R) (mdl8 m R R.length)
  | D, [], m, hI, _, _, _ => ⟨by simp [putXs], by simpa [mdl8, puts8] using hI⟩
  | D, x :: R, m, hI, hD, hR, hn => by
    simp only [List.length_cons] at hn
    obtain ⟨h1, h2⟩ := putI_put (x := x) hI (fun y hy => hD y (List.mem_append_left _ hy)) (hD x (by simp)) hcl (hR x List.mem_cons_self).1 (hR x List.mem_cons_self).2 (by omega)
    obtain ⟨h3, h4⟩ := putI_all hcl (R := R) h2 (fun y hy => hD y (by simpa using hy)) (fun y hy => hR y (List.mem_cons_of_mem _ hy)) (by simp; omega)
    have e0 : mdl8 m (x :: R) 0 = m := rfl
    have es : ∀ i, mdl8 m (x :: R) (i + 1) = mdl8 (put8 m x.b).1 R i := fun i => by simp [mdl8, puts8]
    refine ⟨fun y hy => ?_, ?_⟩
    · simp only [putXs, List.length_cons, List.mem_map, List.mem_range] at hy
      obtain ⟨i, hi, rfl⟩ := hy
      cases i with
      | zero => exact h1
      | succ i =>
        have h5 := h3 (putX (put8 m x.b).1 R i) (List.mem_map.2 ⟨i, List.mem_range.2 (by omega), rfl⟩)
        simp only [putX, es] at h5 ⊢
        exact h5
    · rw [List.length_cons, es, show D ++ x :: R = D ++ [x] ++ R by simp]; exact h4
theorem putAll_all {T R : List BSl} {m : St8} (hcl : clashB T = false) (hI : PutI [] m) (hD : ∀ y ∈ R, y ∈ T) (hR : ∀ y ∈ R, ¬ kindM y.b = 0 ∧ y.b.length ≤ 4100) (hn : R.length < 10000) : putAll8 m R = (mdl8 m R R.length, R.length, 0) ∧ PutI R (mdl8 m R R.length) := by
  obtain ⟨h1, h2⟩ := putI_all hcl (D := []) (R := R) hI (by simpa using hD) hR (by simpa using hn)
  exact ⟨putAll_done h1, by simpa using h2⟩

theorem c_puts8 (p : Nat) (Tv : Value) (T : List BSl) (HX : Mem) (w : World) (hbT : Rdx 1 (bsC) ((0, .cells (wfV 8 (s8f shaB)).cells 151 (0, 0)) :: (1, .cells (wfV 64 (gtf shaK)).cells 286 (0, 0)) :: HX) Tv T) (hbkT : BsOk ((0, .cells (wfV 8 (s8f shaB)).cells 151 (0, 0)) :: (1, .cells (wfV 64 (gtf shaK)).cells 286 (0, 0)) :: HX) T) (hlT : T.length ≤ 1000000) (hsT : ∀ x ∈ T, x.b.length ≤ 1000000) (hH : Hp ((0, .cells (wfV 8 (s8f shaB)).cells 151 (0, 0)) :: (1, .cells (wfV 64 (gtf shaK)).cells 286 (0, 0)) :: HX) w) : Calls Tryz.prog 78 #[.pointer (some ⟨p, 0, none⟩), Tv] w (Ret w [] fun v H1 => ∃ x1 x2, v = .func (.func 144) #[] #[.pointer (some ⟨x1, 0, none⟩), .pointer (some ⟨x2, 0, none⟩)] ∧ H1 = [(x1, .cells #[Tv] 24 (0, 0)), (x2, .cells #[.pointer (some ⟨p, 0, none⟩)] 28 (0, 0))]) := by
 refine fn_enter (args := [_, _]) func78 rfl ntmps78 rfl hH (sq (pl (TE_boxC #[.pointer (some ⟨p, 0, none⟩)] rfl rfl rfl trivial rfl fun b2 hb2 => (TE_boxC #[Tv] rfl rfl (by obtain ⟨_, _, h⟩ := (hbT).shape; rw [h] <;> rfl) trivial rfl fun b3 hb3 => (qa rfl (n0 (sq (pl (qq rfl (RD.makeFunc rfl rfl) ?_)))))))))
 exact qa rfl (n0 (rt (dS [(b3, .cells #[Tv] 24 (0, 0)), (b2, .cells #[.pointer (some ⟨p, 0, none⟩)] 28 (0, 0))] rfl rfl ⟨b3, b2, rfl, rfl⟩ (ownC (.inl hb3) (ownC (.inl hb2) own0)))))
theorem c_stPutAll (s : Nat) (mb : Nat) (m : St8) (Tv : Value) (T : List BSl) (HX : Mem) (w : World) (hst : StOk m) (hbT : Rdx 1 (bsC) ((0, .cells (wfV 8 (s8f shaB)).cells 151 (0, 0)) :: (1, .cells (wfV 64 (gtf shaK)).cells 286 (0, 0)) :: HX) Tv T) (hbkT : BsOk ((0, .cells (wfV 8 (s8f shaB)).cells 151 (0, 0)) :: (1, .cells (wfV 64 (gtf shaK)).cells 286 (0, 0)) :: HX) T) (hlT : T.length ≤ 1000000) (hsT : ∀ x ∈ T, x.b.length ≤ 1000000) (hlm : m.l.length + T.length < 1000000) (hH : Hp ((s, .cells #[.int .i64 m.q, .int .i64 m.sz, .map (some mb)] 69 (0, 0)) :: (mb, mapO keyV en8V m.l m.c) :: (0, .cells (wfV 8 (s8f shaB)).cells 151 (0, 0)) :: (1, .cells (wfV 64 (gtf shaK)).cells 286 (0, 0)) :: HX) w) : Calls Tryz.prog 22 #[.pointer (some ⟨s, 0, none⟩), Tv] w (Ret w (keys [(s, .cells #[.int .i64 m.q, .int .i64 m.sz, .map (some mb)] 69 (0, 0)), (mb, mapO keyV en8V m.l m.c)]) fun v H1 => ∃ mb', v = .tuple #[.int .i64 ((putAll8 m T).2.1 : Int), .int .i64 (putAll8 m T).2.2] ∧ H1 = [(s, .cells #[.int .i64 ((putAll8 m T).1).q, .int .i64 ((putAll8 m T).1).sz, .map (some mb')] 69 (0, 0)), (mb', mapO keyV en8V ((putAll8 m T).1).l ((putAll8 m T).1).c)]) := by
 refine fn_enter (args := [_, _]) func22 rfl ntmps22 rfl hH (sq (pl (qa rfl (qa rfl (n0 (pn_scope (sq (pl (qm rfl ?_)))))))))
 refine cG rfl call36 (fun w hw => c_stCopy s mb m w hst hw.s) ?_
 rintro v4 H5 ⟨s1, mb2, rfl, rfl⟩ hX3
 refine tsp ((s1, .cells #[.int .i64 m.q, .int .i64 m.sz, .map (some mb2)] 69 (0, 0)) :: (mb2, mapO keyV en8V m.l m.c) :: (s, .cells #[.int .i64 m.q, .int .i64 m.sz, .map (some mb)] 69 (0, 0)) :: (mb, mapO keyV en8V m.l m.c) :: (0, .cells (wfV 8 (s8f shaB)).cells 151 (0, 0)) :: (1, .cells (wfV 64 (gtf shaK)).cells 286 (0, 0)) :: HX) (qa rfl (n0 (sq (sq (pl (qm rfl (qq rfl (RD.as (v := .bool false) (RD.ptr_eql_nil runUnderlying28 rfl rfl) rfl) (n0 (pn_condF rfl ?_)))))))))
 refine sk (sq (pn_plain [1] rfl (qm rfl (qq rfl (RD.lenX runUnderlying24 rfl hbT) (TE_allocC #[.int .i64 0] rfl zeroValue3 rfl trivial rfl fun b7 hb7 => (TE_allocC #[.int .i64 0] rfl zeroValue29 rfl trivial rfl fun b8 hb8 => (TE_storeC 1 _ _ ((b8, .cells #[.int .i64 0] 29 (0, 0)) :: (b7, .cells #[.int .i64 (T.length : Int)] 3 (0, 0)) :: (s1, .cells #[.int .i64 m.q, .int .i64 m.sz, .map (some mb2)] 69 (0, 0)) :: (mb2, mapO keyV en8V m.l m.c) :: (s, .cells #[.int .i64 m.q, .int .i64 m.sz, .map (some mb)] 69 (0, 0)) :: (mb, mapO keyV en8V m.l m.c) :: (0, .cells (wfV 8 (s8f shaB)).cells 151 (0, 0)) :: (1, .cells (wfV 64 (gtf shaK)).cells 286 (0, 0)) :: HX) rfl sizeOf3 trivial rfl rfl rfl rfl rfl rfl rfl rfl (.inl hb7) (TE_storeC 0 _ _ ((b8, .cells #[.int .i64 0] 29 (0, 0)) :: (b7, .cells #[.int .i64 (T.length : Int)] 3 (0, 0)) :: (s1, .cells #[.int .i64 m.q, .int .i64 m.sz, .map (some mb2)] 69 (0, 0)) :: (mb2, mapO keyV en8V m.l m.c) :: (s, .cells #[.int .i64 m.q, .int .i64 m.sz, .map (some mb)] 69 (0, 0)) :: (mb, mapO keyV en8V m.l m.c) :: (0, .cells (wfV 8 (s8f shaB)).cells 151 (0, 0)) :: (1, .cells (wfV 64 (gtf shaK)).cells 286 (0, 0)) :: HX) rfl sizeOf29 trivial rfl rfl rfl rfl rfl rfl rfl rfl (.inl hb8) (n0 ?_)))))))))
 refine sq (pn_label (sq (sq (pl (qm rfl (qm rfl (cG rfl call78 (fun w hw => c_puts8 s1 Tv T HX w hbT.s hbkT.s hlT hsT hw.s) ?_)))))))
 rintro v9 H10 ⟨x6, x7, rfl, rfl⟩ hX8
 refine tsp ((x6, .cells #[Tv] 24 (0, 0)) :: (x7, .cells #[.pointer (some ⟨s1, 0, none⟩)] 28 (0, 0)) :: (b8, .cells #[.int .i64 0] 29 (0, 0)) :: (b7, .cells #[.int .i64 (T.length : Int)] 3 (0, 0)) :: (s1, .cells #[.int .i64 m.q, .int .i64 m.sz, .map (some mb2)] 69 (0, 0)) :: (mb2, mapO keyV en8V m.l m.c) :: (s, .cells #[.int .i64 m.q, .int .i64 m.sz, .map (some mb)] 69 (0, 0)) :: (mb, mapO keyV en8V m.l m.c) :: (0, .cells (wfV 8 (s8f shaB)).cells 151 (0, 0)) :: (1, .cells (wfV 64 (gtf shaK)).cells 286 (0, 0)) :: HX) (n0 (pn_block (pn_rangeC (τ := Unit) (HI := [(x6, .cells #[Tv] 24 (0, 0)), (x7, .cells #[.pointer (some ⟨s1, 0, none⟩)] 28 (0, 0)), (s1, .cells #[.int .i64 m.q, .int .i64 m.sz, .map (some mb2)] 69 (0, 0)), (mb2, mapO keyV en8V m.l m.c)]) (HC := ((0, .cells (wfV 8 (s8f shaB)).cells 151 (0, 0)) :: (1, .cells (wfV 64 (gtf shaK)).cells 286 (0, 0)) :: HX)) (HR := ((s, .cells #[.int .i64 m.q, .int .i64 m.sz, .map (some mb)] 69 (0, 0)) :: (mb, mapO keyV en8V m.l m.c) :: (0, .cells (wfV 8 (s8f shaB)).cells 151 (0, 0)) :: (1, .cells (wfV 64 (gtf shaK)).cells 286 (0, 0)) :: HX)) (it_puts x6 x7 s1 mb2 m T Tv HX hst hbT hbkT hlm hsT) (List.Sublist.cons _ (List.Sublist.cons _ (List.Sublist.cons_cons _ (List.Sublist.cons_cons _ (List.Sublist.refl _))))) (fun (q : Int × Int) => [(b7, .cells #[.int .i64 q.1] 3 (0, 0)), (b8, .cells #[.int .i64 q.2] 29 (0, 0))]) (fun pre (q : Int × Int) => (q.1 = (T.length : Int)) ∧ (q.2 = 0) ∧ (∀ y ∈ pre, y.2 = 0)) (fun c pre (q : Int × Int) => c = .exit 0 ∧ ((putAll8 m T).1 = m ∧ q.1 = ((putAll8 m T).2.1 : Int) ∧ q.2 = (putAll8 m T).2.2 ∧ ¬ q.2 = 0)) ((T.length : Int), 0) ⟨rfl, rfl, (fun y hy => nomatch hy)⟩ rfl call144 (by intro x; rfl) rfl (fun w h => h.sp (fun a => by simp -failIfUnchanged <;> omega)) (by show ∀ e ∈ ([(x6, .cells #[Tv] 24 (0, 0)), (x7, .cells #[.pointer (some ⟨s1, 0, none⟩)] 28 (0, 0)), (s1, .cells #[.int .i64 m.q, .int .i64 m.sz, .map (some mb2)] 69 (0, 0)), (mb2, mapO keyV en8V m.l m.c)] ++ [(b7, .cells #[.int .i64 (T.length : Int)] 3 (0, 0)), (b8, .cells #[.int .i64 0] 29 (0, 0))] : Mem), _; exact (ownA (ownC (.inl (hX8 _ List.mem_cons_self)) (ownC (.inl (hX8 _ (List.mem_cons_of_mem _ List.mem_cons_self))) (ownC (.inl (hX3 _ List.mem_cons_self)) (ownC (.inl (hX3 _ (List.mem_cons_of_mem _ List.mem_cons_self))) own0)))) (ownC (.inl hb7) (ownC (.inl hb8) own0)))) (fun x _ => [(7, .pointer (some ⟨b7, 0, none⟩)), (8, .pointer (some ⟨b8, 0, none⟩)), (9, .int .i64 (x.1 : Int)), (10, .int .i64 x.2), (20, .int .i64 (x.1 : Int)), (21, .int .i64 x.2)]) (fun _ _ => []) (fun _ _ => True) ?_ ?_ ?_ ?_)))
 ·intro W l1 pre x q R hW hG hpre
  exact sq (pl (qa rfl (n0 (pl (qa rfl (n0 (fun a w hr hs => ⟨(), trivial, hr.keeps ⟨rfl, rfl, rfl, rfl, rfl, rfl, trivial⟩, hs⟩)))))))
 ·rintro W l1 pre x ⟨n, ez⟩ _ R hW ⟨hn, he, hz⟩ hpre -
  dsimp only at hn he hz ⊢
  refine pn_block (sq (plG [] ((b7, .cells #[.int .i64 n] 3 (0, 0)) :: (b8, .cells #[.int .i64 ez] 29 (0, 0)) :: (s, .cells #[.int .i64 m.q, .int .i64 m.sz, .map (some mb)] 69 (0, 0)) :: (mb, mapO keyV en8V m.l m.c) :: (0, .cells (wfV 8 (s8f shaB)).cells 151 (0, 0)) :: (1, .cells (wfV 64 (gtf shaK)).cells 286 (0, 0)) :: (HX ++ R)) (qm rfl (qq rfl (RD.neq rfl rfl) (n0 (pn_condN rfl (fun hc11 => ?_) (fun hc11 => ?_)))))))
  ·exact sq (pl (qm rfl (qm rfl (TE_storeC 0 _ _ ((b7, .cells #[.int .i64 (x.1 : Int)] 3 (0, 0)) :: (b8, .cells #[.int .i64 ez] 29 (0, 0)) :: (s, .cells #[.int .i64 m.q, .int .i64 m.sz, .map (some mb)] 69 (0, 0)) :: (mb, mapO keyV en8V m.l m.c) :: (0, .cells (wfV 8 (s8f shaB)).cells 151 (0, 0)) :: (1, .cells (wfV 64 (gtf shaK)).cells 286 (0, 0)) :: (HX ++ R)) rfl sizeOf3 trivial rfl rfl rfl rfl rfl rfl rfl rfl (.inr (by simp [keys])) (TE_storeC 1 _ _ ((b7, .cells #[.int .i64 (x.1 : Int)] 3 (0, 0)) :: (b8, .cells #[.int .i64 x.2] 29 (0, 0)) :: (s, .cells #[.int .i64 m.q, .int .i64 m.sz, .map (some mb)] 69 (0, 0)) :: (mb, mapO keyV en8V m.l m.c) :: (0, .cells (wfV 8 (s8f shaB)).cells 151 (0, 0)) :: (1, .cells (wfV 64 (gtf shaK)).cells 286 (0, 0)) :: (HX ++ R)) rfl sizeOf29 trivial rfl rfl rfl rfl rfl rfl rfl rfl (.inr (by simp [keys])) (n0 (xt (pn_endR (G := fun (q : Int × Int) => (Code.exit 0) = .exit 0 ∧ ((putAll8 m T).1 = m ∧ q.1 = ((putAll8 m T).2.1 : Int) ∧ q.2 = (putAll8 m T).2.2 ∧ ¬ q.2 = 0)) (σ := Int × Int) (HJ := (fun (q : Int × Int) => [(b7, .cells #[.int .i64 q.1] 3 (0, 0)), (b8, .cells #[.int .i64 q.2] 29 (0, 0))])) (s := (n, ez)) (l := l1) (R := R) ((x.1 : Int), x.2) rfl ⟨rfl, (show (putAll8 m T).1 = m ∧ (x.1 : Int) = ((putAll8 m T).2.1 : Int) ∧ x.2 = (putAll8 m T).2.2 ∧ ¬ x.2 = 0 from (by rw [putAll_stop hpre hz hc11]; exact ⟨rfl, rfl, rfl, hc11⟩))⟩ (fun w h => h.sp (fun a => by simp -failIfUnchanged <;> omega)) (by intro e he; refine Or.inl (?_ : e.1 ∈ keys [(b7, .cells #[.int .i64 n] 3 (0, 0)), (b8, .cells #[.int .i64 ez] 29 (0, 0))]); simp only [keys, List.map_cons, List.map_nil, List.mem_cons, List.not_mem_nil, or_false] at he ⊢; rcases he with rfl | rfl <;> simp)))))))))
  ·exact sk (pn_endR  (σ := Int × Int) (HJ := (fun (q : Int × Int) => [(b7, .cells #[.int .i64 q.1] 3 (0, 0)), (b8, .cells #[.int .i64 q.2] 29 (0, 0))])) (s := (n, ez)) (l := l1) (R := R) (n, ez) rfl ⟨(show n = (T.length : Int) from hn), (show ez = 0 from he), (show ∀ y ∈ (pre ++ [x]), y.2 = 0 from (fun y hy => (List.mem_append.1 hy).elim (hz y) fun h => by rw [List.mem_singleton] at h; subst h; exact hc11))⟩ (fun w h => h.sp (fun a => by simp -failIfUnchanged <;> omega)) (by intro e he; refine Or.inl (?_ : e.1 ∈ keys [(b7, .cells #[.int .i64 n] 3 (0, 0)), (b8, .cells #[.int .i64 ez] 29 (0, 0))]); simp only [keys, List.map_cons, List.map_nil, List.mem_cons, List.not_mem_nil, or_false] at he ⊢; rcases he with rfl | rfl <;> simp))
 ·rintro D HI' ⟨n, ez⟩ hD ⟨hn, he, hz⟩ rfl
  dsimp only at hn he hz ⊢
  refine sq (sq (plG [] ((b7, .cells #[.int .i64 n] 3 (0, 0)) :: (b8, .cells #[.int .i64 ez] 29 (0, 0)) :: (s1, .cells #[.int .i64 ((mdl8 m T (putXs m T).length).q), .int .i64 ((mdl8 m T (putXs m T).length).sz), .map (some mb2)] 69 (0, 0)) :: (mb2, mapO keyV en8V ((mdl8 m T (putXs m T).length).l) ((mdl8 m T (putXs m T).length).c)) :: (D, .deferred (some [])) :: (s, .cells #[.int .i64 m.q, .int .i64 m.sz, .map (some mb)] 69 (0, 0)) :: (mb, mapO keyV en8V m.l m.c) :: (0, .cells (wfV 8 (s8f shaB)).cells 151 (0, 0)) :: (1, .cells (wfV 64 (gtf shaK)).cells 286 (0, 0)) :: HX) (ql rfl (RD.load (i := 1) isAgg29 rfl rfl rfl) (qq rfl (RD.eql rfl rfl) (n0 (pn_condD rfl (fun hc12 => ?_) (fun hc12 => ?_)))))))
  ·refine pl (qm rfl (qm rfl (qn rfl (ql rfl (RD.loadA (i := 2) (v := .agg #[.int .i64 ((mdl8 m T (putXs m T).length).q), .int .i64 ((mdl8 m T (putXs m T).length).sz), .map (some mb2)]) isAgg69 sizeOf69 rfl rfl (Nat.le_of_ble_eq_true rfl) rfl) (qn rfl (TE_putCW 5 _ _ ((b7, .cells #[.int .i64 n] 3 (0, 0)) :: (b8, .cells #[.int .i64 ez] 29 (0, 0)) :: (s1, .cells #[.int .i64 ((mdl8 m T (putXs m T).length).q), .int .i64 ((mdl8 m T (putXs m T).length).sz), .map (some mb2)] 69 (0, 0)) :: (mb2, mapO keyV en8V ((mdl8 m T (putXs m T).length).l) ((mdl8 m T (putXs m T).length).c)) :: (D, .deferred (some [])) :: (s, .cells #[.int .i64 ((mdl8 m T (putXs m T).length).q), .int .i64 ((mdl8 m T (putXs m T).length).sz), .map (some mb2)] 69 (0, 0)) :: (mb, mapO keyV en8V m.l m.c) :: (0, .cells (wfV 8 (s8f shaB)).cells 151 (0, 0)) :: (1, .cells (wfV 64 (gtf shaK)).cells 286 (0, 0)) :: HX) rfl sizeOf69 trivial rfl rfl rfl rfl rfl rfl rfl rfl (.inr (by simp [keys])) (n0 (sq (dG [0, 1] [] ((b7, .cells #[.int .i64 n] 3 (0, 0)) :: (b8, .cells #[.int .i64 ez] 29 (0, 0)) :: (s1, .cells #[.int .i64 ((mdl8 m T (putXs m T).length).q), .int .i64 ((mdl8 m T (putXs m T).length).sz), .map (some mb2)] 69 (0, 0)) :: (mb2, mapO keyV en8V ((mdl8 m T (putXs m T).length).l) ((mdl8 m T (putXs m T).length).c)) :: (D, .deferred (some [])) :: (s, .cells #[.int .i64 ((mdl8 m T (putXs m T).length).q), .int .i64 ((mdl8 m T (putXs m T).length).sz), .map (some mb2)] 69 (0, 0)) :: (mb, mapO keyV en8V m.l m.c) :: (0, .cells (wfV 8 (s8f shaB)).cells 151 (0, 0)) :: (1, .cells (wfV 64 (gtf shaK)).cells 286 (0, 0)) :: HX) ?_)))))))))
   refine qq rfl (RD.load (i := 0) isAgg3 rfl rfl rfl) (qq rfl (RD.load (i := 1) isAgg29 rfl rfl rfl) (qa rfl (qa rfl (TE_nil (rt ?_)))))
   have hpa := putAll_done hz
   exact pn_doneFC D ((b7, .cells #[.int .i64 n] 3 (0, 0)) :: (b8, .cells #[.int .i64 ez] 29 (0, 0)) :: (s1, .cells #[.int .i64 ((mdl8 m T (putXs m T).length).q), .int .i64 ((mdl8 m T (putXs m T).length).sz), .map (some mb2)] 69 (0, 0)) :: (mb2, mapO keyV en8V ((mdl8 m T (putXs m T).length).l) ((mdl8 m T (putXs m T).length).c)) :: (s, .cells #[.int .i64 ((mdl8 m T (putXs m T).length).q), .int .i64 ((mdl8 m T (putXs m T).length).sz), .map (some mb2)] 69 (0, 0)) :: (mb, mapO keyV en8V m.l m.c) :: (0, .cells (wfV 8 (s8f shaB)).cells 151 (0, 0)) :: (1, .cells (wfV 64 (gtf shaK)).cells 286 (0, 0)) :: HX) (fun a => by simp -failIfUnchanged <;> omega) rfl ⟨_, _, rfl, rfl, ⟨_, _, rfl, rfl, rfl⟩⟩ ⟨mb2, (by rw [hpa, hn, he] <;> rfl), (show ([(s, .cells #[.int .i64 ((mdl8 m T (putXs m T).length).q), .int .i64 ((mdl8 m T (putXs m T).length).sz), .map (some mb2)] 69 (0, 0)), (mb2, mapO keyV en8V ((mdl8 m T (putXs m T).length).l) ((mdl8 m T (putXs m T).length).c))] : Mem) = _ from by rw [hpa, putXs_len] <;> rfl)⟩ sb (fun e he => Or.symm ((ownC (.inr (by simp [keys])) (ownC (.inl (hX3 _ (List.mem_cons_of_mem _ List.mem_cons_self))) own0)) e he)) hD
  ·exfalso
   exact hc12 he
 ·rintro D HI' c pre ⟨n, ez⟩ hD hpre ⟨rfl, hq⟩ rfl
  dsimp only at hq ⊢
  refine xt (sq (sq (plG [] ((b7, .cells #[.int .i64 n] 3 (0, 0)) :: (b8, .cells #[.int .i64 ez] 29 (0, 0)) :: (s1, .cells #[.int .i64 ((mdl8 m T pre.length).q), .int .i64 ((mdl8 m T pre.length).sz), .map (some mb2)] 69 (0, 0)) :: (mb2, mapO keyV en8V ((mdl8 m T pre.length).l) ((mdl8 m T pre.length).c)) :: (D, .deferred (some [])) :: (s, .cells #[.int .i64 m.q, .int .i64 m.sz, .map (some mb)] 69 (0, 0)) :: (mb, mapO keyV en8V m.l m.c) :: (0, .cells (wfV 8 (s8f shaB)).cells 151 (0, 0)) :: (1, .cells (wfV 64 (gtf shaK)).cells 286 (0, 0)) :: HX) (ql rfl (RD.load (i := 1) isAgg29 rfl rfl rfl) (qq rfl (RD.eql rfl rfl) (n0 (pn_condD rfl (fun hc13 => ?_) (fun hc13 => ?_))))))))
  ·exfalso
   exact hq.2.2.2 hc13
  ·exact sk (sq (dG [0, 1] [] ((b7, .cells #[.int .i64 n] 3 (0, 0)) :: (b8, .cells #[.int .i64 ez] 29 (0, 0)) :: (s1, .cells #[.int .i64 ((mdl8 m T pre.length).q), .int .i64 ((mdl8 m T pre.length).sz), .map (some mb2)] 69 (0, 0)) :: (mb2, mapO keyV en8V ((mdl8 m T pre.length).l) ((mdl8 m T pre.length).c)) :: (D, .deferred (some [])) :: (s, .cells #[.int .i64 m.q, .int .i64 m.sz, .map (some mb)] 69 (0, 0)) :: (mb, mapO keyV en8V m.l m.c) :: (0, .cells (wfV 8 (s8f shaB)).cells 151 (0, 0)) :: (1, .cells (wfV 64 (gtf shaK)).cells 286 (0, 0)) :: HX) (qq rfl (RD.load (i := 0) isAgg3 rfl rfl rfl) (qq rfl (RD.load (i := 1) isAgg29 rfl rfl rfl) (qa rfl (qa rfl (TE_nil (rt (pn_doneFC D ((b7, .cells #[.int .i64 n] 3 (0, 0)) :: (b8, .cells #[.int .i64 ez] 29 (0, 0)) :: (s1, .cells #[.int .i64 ((mdl8 m T pre.length).q), .int .i64 ((mdl8 m T pre.length).sz), .map (some mb2)] 69 (0, 0)) :: (mb2, mapO keyV en8V ((mdl8 m T pre.length).l) ((mdl8 m T pre.length).c)) :: (s, .cells #[.int .i64 m.q, .int .i64 m.sz, .map (some mb)] 69 (0, 0)) :: (mb, mapO keyV en8V m.l m.c) :: (0, .cells (wfV 8 (s8f shaB)).cells 151 (0, 0)) :: (1, .cells (wfV 64 (gtf shaK)).cells 286 (0, 0)) :: HX) (fun a => by simp -failIfUnchanged <;> omega) rfl ⟨_, _, rfl, rfl, ⟨_, _, rfl, rfl, rfl⟩⟩ ⟨mb, (by rw [hq.2.1, hq.2.2.1] <;> rfl), (by rw [hq.1])⟩ sb (fun e he => Or.symm ((ownC (.inr (by simp [keys])) (ownC (.inr (by simp [keys])) own0)) e he)) hD)))))))))
end Go.Proofs.YtcmnmigcalibdaaGreatDoor

namespace Go.Proofs.YtcmnmigcalibdaaGreatDoor
open Go.Proofs.Tryz
open Go Go.Mv
set_option maxRecDepth 8000
def idsB (a b : List (Nat → Int)) : Bool := decide (a.length = b.length) && (List.range a.length).all fun i => sameN 32 (gt a i) (gt b i)
theorem idsB_0 {a b : List (Nat → Int)} (h : ¬ (a.length : Int) = b.length) : false = idsB a b := by
  rw [idsB, decide_eq_false (by omega)]; rfl
theorem idsB_1 {a b : List (Nat → Int)} {i : Nat} (hi : i < a.length) (h : sameN 32 (gt a i) (gt b i) = false) : false = idsB a b := by
  have : (List.range a.length).all (fun i => sameN 32 (gt a i) (gt b i)) = false := List.all_eq_false.2 ⟨i, List.mem_range.2 hi, by simp [h]⟩
  rw [idsB, this, Bool.and_false]
theorem idsB_2 {a b : List (Nat → Int)} (hl : (a.length : Int) = b.length) (h : ∀ j, j < a.length → sameN 32 (gt a j) (gt b j) = true) : true = idsB a b := by
  rw [idsB, decide_eq_true (by omega : a.length = b.length), List.all_eq_true.2 fun i hi => h i (List.mem_range.1 hi)]; rfl
theorem idsB_self (a : List (Nat → Int)) : idsB a a = true := (idsB_2 rfl fun _ _ => sameN_self _ _).symm
theorem c_same3 (av : Value) (a : List ((Nat → Int))) (bv : Value) (b : List ((Nat → Int))) (HX : Mem) (w : World) (hba : Rdx 32 (idC) HX av a) (hla : a.length ≤ 1000000) (hbb : Rdx 32 (idC) HX bv b) (hlb : b.length ≤ 1000000) (hH : Hp HX w) : Calls Tryz.prog 23 #[av, bv] w (Ret w [] fun v H1 => v = .bool (idsB a b) ∧ H1 = []) := by
 refine fn_enter (args := [_, _]) func23 rfl ntmps23 rfl hH (sq (pl (qa rfl (n0 (sq (sq (pn_plain [1, 3] rfl (qm rfl (qq rfl (RD.lenX runUnderlying41 rfl hba) ?_)))))))))
 refine qm rfl (qq rfl (RD.lenX runUnderlying41 rfl hbb) (qq rfl (RD.neq rfl rfl) (n0 (pn_condN rfl (fun hc1 => ?_) (fun hc1 => ?_)))))
 ·exact sq (plG [] [] (qa rfl (n0 (rt (pn_doneS [] rfl rfl ⟨(congrArg Value.bool (idsB_0 hc1)), rfl⟩ (fun _ => Nat.zero_le _) (fun _ he => nomatch he))))))
 ·refine sk (sq (sq (pl (qa rfl (n0 (pn_block (lpS (σ := Nat) (fun q => [(0, av), (1, bv), (5, .int .i64 (q : Int))]) (fun q => HX) (fun q => (q ≤ a.length) ∧ (∀ j, j < q → sameN 32 (gt a j) (gt b j) = true)) (fun q => a.length - q) 0 ⟨(by omega), (fun j hj => absurd hj (Nat.not_lt_zero _))⟩ ⟨rfl, rfl, rfl, trivial⟩ ?_)))))))
  rintro i ⟨hi, hall⟩
  refine sq (sq (pn_plain [2] rfl (qm rfl (qm rfl (qq rfl (RD.lenX runUnderlying41 rfl hba) (qq rfl (RD.lss rfl rfl) (n0 (pn_condD rfl (fun hc2 => ?_) (fun hc2 => ?_)))))))))
  ·refine sk (sq (pn_block (sq (dG [3, 7] [] HX (qm rfl (qm rfl (qq rfl (RD.idxR (i := i) (o := (i * 32 + 0)) runUnderlying41 sizeOf35 rfl hba rfl rfl (by omega) (by rfl)) (qq rfl (RD.ldRA (i := i) (j := 0) (vs := (idC (gt a i))) isAgg35 sizeOf35 rfl hba (gt_some (by omega)) (by rfl) rfl (fun _ _ hu => by rw [Nat.zero_add]; exact hu) (idC_agg _) sb) (qm rfl ?_)))))))))
   refine qm rfl (qq rfl (RD.idxR (i := i) (o := (i * 32 + 0)) runUnderlying41 sizeOf35 rfl hbb rfl rfl (by omega) (by rfl)) (qq rfl (RD.ldRA (i := i) (j := 0) (vs := (idC (gt b i))) isAgg35 sizeOf35 rfl hbb (gt_some (by omega)) (by rfl) rfl (fun _ _ hu => by rw [Nat.zero_add]; exact hu) (idC_agg _) sb) (qq rfl (RD.neq_agg eqGuardType35 (eq_id (gt a i) (gt b i)) rfl rfl) (TE_nil (pn_cond rfl (fun hc3 => ?_) (fun hc3 => ?_))))))
   ·simp only [Bool.not_eq_true'] at hc3
    exact sq (plG [] [] (qa rfl (n0 (rt (pn_doneS [] rfl rfl ⟨(congrArg Value.bool (idsB_1 (i := i) (by omega) hc3)), rfl⟩ (fun _ => Nat.zero_le _) (fun _ he => nomatch he))))))
   ·simp only [Bool.not_eq_false'] at hc3
    exact sk (plG [] HX (qm rfl (qq rfl (RD.addI rfl rfl (by omega) (by omega)) (qa rfl (n0 (agS (i + 1) ⟨(by omega), (fun j hj => if h : j = i then by subst h; exact hc3 else hall j (by omega))⟩ (by omega) ⟨rfl, rfl, rfl, trivial⟩))))))
  ·exact xt (sq (plG [] [] (qa rfl (n0 (rt (pn_doneS [] rfl rfl ⟨(congrArg Value.bool (idsB_2 hc1 fun j hj => hall j (by omega))), rfl⟩ (fun _ => Nat.zero_le _) (fun _ he => nomatch he)))))))
end Go.Proofs.YtcmnmigcalibdaaGreatDoor
