import Derived.Test.YthagkkmbbncclaaDoorMvD
namespace Go.Mv
open Go

/-! ### Maps -/
/-- An entry: a key, a value, when it was born. -/
structure ME (κ β : Type) where
  k : κ
  v : β
  n : Nat
section maps
variable {κ β : Type} [DecidableEq κ] {ek : κ → Value} {ev : β → Value}
def meV (ek : κ → Value) (ev : β → Value) (e : ME κ β) : MapEntry := { key := ek e.k, val := ev e.v, born := e.n }
def mapO (ek : κ → Value) (ev : β → Value) (l : List (ME κ β)) (c : Nat) : Obj := .map (l.map (meV ek ev)).toArray c

/-- What a key's kind must be. -/
structure KeyQ (P : Program) (T : TypeId) (ek : κ → Value) : Prop where
  eq : ∀ a b w, (Op.equal T (ek a) (ek b)).run P w = .ok (decide (a = b)) w
  chk : ∀ e a w, (Instr.checkKey e 10000 T (ek a)).run P w = .ok () w
  far : ∀ d a b, Instr.sameNow d (ek a) (ek b) = none
  bits : ∀ a, Instr.sameBits 10000 (ek a) (ek a) = true
  und : ∃ d, P.underlying T = some d

def mpos (x : κ) : List (ME κ β) → Nat → Option (Nat × ME κ β)
  | [], _ => none
  | e :: r, i => if x = e.k then some (i, e) else mpos x r (i + 1)
def mget (x : κ) (l : List (ME κ β)) : Option β := (mpos x l 0).map fun p => p.2.v
theorem mpos_lt {x : κ} : ∀ {l : List (ME κ β)} {i : Nat} {j : Nat} {e : ME κ β}, mpos x l i = some (j, e) → i ≤ j ∧ j < i + l.length ∧ l[j - i]? = some e ∧ e.k = x
  | [], i, j, e, h => by simp [mpos] at h
  | f :: r, i, j, e, h => by
    simp only [mpos] at h
    split at h
    · rename_i hx
      simp only [Option.some.injEq, Prod.mk.injEq] at h
      obtain ⟨rfl, rfl⟩ := h
      simp [hx]
    · obtain ⟨h1, h2, h3, h4⟩ := mpos_lt h
      refine ⟨by omega, by simp only [List.length_cons]; omega, ?_, h4⟩
      rw [show j - i = (j - (i + 1)) + 1 from by omega, List.getElem?_cons_succ]; exact h3
theorem mpos_none {x : κ} : ∀ {l : List (ME κ β)} {i : Nat}, mpos x l i = none ↔ ∀ e ∈ l, e.k ≠ x
  | [], i => by simp [mpos]
  | f :: r, i => by
    simp only [mpos]
    split
    · rename_i hx
      simp only [reduceCtorEq, List.mem_cons, ne_eq, forall_eq_or_imp, false_iff, not_and]
      exact fun h => absurd hx.symm h
    · rename_i hx
      rw [mpos_none]
      simp only [List.mem_cons, ne_eq, forall_eq_or_imp]
      exact ⟨fun h => ⟨fun e => hx e.symm, h⟩, fun h => h.2⟩
theorem mget_none {x : κ} {l : List (ME κ β)} : mget x l = none ↔ ∀ e ∈ l, e.k ≠ x := by
  unfold mget; rw [Option.map_eq_none_iff]; exact mpos_none

/-- The keys are unlike, so are the births, and these are past. -/
structure MOk (l : List (ME κ β)) (c : Nat) : Prop where
  ks : l.Pairwise fun a b => a.k ≠ b.k
  ns : l.Pairwise fun a b => a.n ≠ b.n
  lt : ∀ e ∈ l, e.n < c
omit [DecidableEq κ] in
theorem MOk.nil (c : Nat) : MOk ([] : List (ME κ β)) c := ⟨.nil, .nil, by simp⟩

section run
variable {P : Program} {T : TypeId}
theorem run_findAsking (hq : KeyQ P T ek) (x : κ) (w : World) : ∀ (l : List (ME κ β)) (i : Nat), (Instr.findAsking T (ek x) (l.map (meV ek ev)) i).run P w = .ok ((mpos x l i).map fun p => (p.1, ev p.2.v)) w
  | [], i => by simp [Instr.findAsking, mpos]
  | e :: r, i => by
    have ih := run_findAsking hq x w r (i + 1)
    have h := hq.eq x e.k w
    simp only [List.map_cons, Instr.findAsking, mpos, meV]
    simp only [Sem.run_bind, h, Result.andThen_ok]
    by_cases hx : x = e.k
    · simp [hx]
    · simpa [hx] using ih
theorem findNow_far (hq : KeyQ P T ek) (d : TypeDesc) (x : κ) : ∀ (l : List (ME κ β)) (i : Nat), Instr.findNow d (ek x) (l.map (meV ek ev)) i = if l = [] then some none else none
  | [], i => by simp [Instr.findNow]
  | e :: r, i => by simp [Instr.findNow, meV, hq.far]
theorem run_findKey (hq : KeyQ P T ek) (x : κ) (w : World) (l : List (ME κ β)) : (Instr.findKey T (ek x) (l.map (meV ek ev))).run P w = .ok ((mpos x l 0).map fun p => (p.1, ev p.2.v)) w := by
  obtain ⟨d, hd⟩ := hq.und
  simp only [Instr.findKey]
  simp only [Sem.run_bind, run_underlying hd, Result.andThen_ok, findNow_far hq]
  by_cases hl : l = []
  · subst hl; simp [mpos]
  · simp only [if_neg hl]; exact run_findAsking hq x w l 0
end run

omit [DecidableEq κ] in
theorem getObj_map {P : Program} {w : World} {r : Nat} {l : List (ME κ β)} {c : Nat} (h : w.heap[r]? = some (mapO ek ev l c)) : (getObj r).run P w = .ok (mapO ek ev l c) w := by
  simp [getObj, Sem.run, h, mapO]
omit [DecidableEq κ] in
theorem setObj_map {P : Program} {w : World} {r : Nat} {l l' : List (ME κ β)} {c c' : Nat} (h : w.heap[r]? = some (mapO ek ev l c)) : (setObj r (mapO ek ev l' c')).run P w = .ok () (w.putObj r (mapO ek ev l' c')) := by
  simp [setObj, Sem.run, h, mapO, World.putObj]

section rd
variable {P : Program} {ty : TypeId} {E : Env} {L : Mem} {x y : Operand} {T key elem : TypeId} {z : Value}
theorem RD.lookupM {i r c : Nat} {l : List (ME κ β)} {a : κ} (hT : P.underlying T = some (.map key elem)) (hq : KeyQ P key ek) (hz : ∀ w, (zeroValue elem).run P w = .ok z w) (hx : evalE E x = some (.map (some r))) (hy : evalE E y = some (ek a)) (hi : L[i]? = some (r, mapO ek ev l c)) :
    RD P (.lookup T x y false) ty E L (((mget a l).map ev).getD z) := fun ρ w _ _ _ _ hρ hL => by
  have hb := hL.get hi
  have hg := getObj_map (P := P) hb
  have hf := run_findKey (ev := ev) hq a w l
  simp only [execOp, hρ _ _ hx, hρ _ _ hy, Instr.lookup]
  simp only [Sem.run_bind, run_underlying hT, Result.andThen_ok, hg, mapO, Sem.run_pure, hq.chk, hf, mget]
  cases hm : mpos a l 0 with
  | none => simp [hz]
  | some p => simp
theorem RD.lookupM2 {i r c : Nat} {l : List (ME κ β)} {a : κ} (hT : P.underlying T = some (.map key elem)) (hq : KeyQ P key ek) (hz : ∀ w, (zeroValue elem).run P w = .ok z w) (hx : evalE E x = some (.map (some r))) (hy : evalE E y = some (ek a)) (hi : L[i]? = some (r, mapO ek ev l c)) :
    RD P (.lookup T x y true) ty E L (.tuple #[((mget a l).map ev).getD z, .bool (mget a l).isSome]) := fun ρ w _ _ _ _ hρ hL => by
  have hb := hL.get hi
  have hg := getObj_map (P := P) hb
  have hf := run_findKey (ev := ev) hq a w l
  simp only [execOp, hρ _ _ hx, hρ _ _ hy, Instr.lookup]
  simp only [Sem.run_bind, run_underlying hT, Result.andThen_ok, hg, mapO, Sem.run_pure, hq.chk, hf, mget]
  cases hm : mpos a l 0 with
  | none => simp [hz]
  | some p => simp
theorem RD.lookupN {a : κ} (hT : P.underlying T = some (.map key elem)) (hq : KeyQ P key ek) (hz : ∀ w, (zeroValue elem).run P w = .ok z w) (hx : evalE E x = some (.map none)) (hy : evalE E y = some (ek a)) :
    RD P (.lookup T x y false) ty E L z := fun ρ w _ _ _ _ hρ _ => by
  have hf := run_findKey (β := Unit) (ev := fun _ => Value.bool false) hq a w []
  simp only [List.map_nil, mpos, Option.map_none] at hf
  simp only [execOp, hρ _ _ hx, hρ _ _ hy, Instr.lookup]
  simp only [Sem.run_bind, run_underlying hT, Result.andThen_ok, Sem.run_pure, hq.chk, hf]
  simp [hz]
theorem RD.lookupN2 {a : κ} (hT : P.underlying T = some (.map key elem)) (hq : KeyQ P key ek) (hz : ∀ w, (zeroValue elem).run P w = .ok z w) (hx : evalE E x = some (.map none)) (hy : evalE E y = some (ek a)) :
    RD P (.lookup T x y true) ty E L (.tuple #[z, .bool false]) := fun ρ w _ _ _ _ hρ _ => by
  have hf := run_findKey (β := Unit) (ev := fun _ => Value.bool false) hq a w []
  simp only [List.map_nil, mpos, Option.map_none] at hf
  simp only [execOp, hρ _ _ hx, hρ _ _ hy, Instr.lookup]
  simp only [Sem.run_bind, run_underlying hT, Result.andThen_ok, Sem.run_pure, hq.chk, hf]
  simp [hz]
end rd

/-! ### What is written -/
/-- The entry of a key, as mapEntry leaves the map. -/
def ment (z : β) (x : κ) (l : List (ME κ β)) (c : Nat) : List (ME κ β) × Nat :=
  if (mpos x l 0).isSome then (l, c) else (l ++ [⟨x, z, c⟩], c + 1)
def mborn (x : κ) (l : List (ME κ β)) (c : Nat) : Nat := ((mpos x l 0).map fun p => p.2.n).getD c
/-- Another value at a place. -/
def mat (i : Nat) (v : β) (l : List (ME κ β)) : List (ME κ β) := l.modify i fun e => { e with v := v }
/-- m[x] = v. -/
def mput (x : κ) (v : β) (l : List (ME κ β)) (c : Nat) : List (ME κ β) × Nat :=
  match mpos x l 0 with
  | some (i, _) => (mat i v l, c)
  | none => (l ++ [⟨x, v, c⟩], c + 1)

theorem modify_id' {α : Type} (a : Array α) (i : Nat) (f : α → α) (h : ∀ x, a[i]? = some x → f x = x) : a.modify i f = a := by
  apply Array.ext_getElem?
  intro j
  rw [Array.getElem?_modify]
  split
  · rename_i hij
    subst hij
    cases hx : a[i]? with
    | none => rfl
    | some x => simp [h x hx]
  · rfl
omit [DecidableEq κ] in
theorem meV_modify (l : List (ME κ β)) (i : Nat) (v : β) : (l.map (meV ek ev)).toArray.modify i (fun e => { e with val := ev v }) = ((mat i v l).map (meV ek ev)).toArray := by
  apply Array.ext_getElem?
  intro j
  rw [Array.getElem?_modify]
  simp only [mat, List.getElem?_toArray, List.getElem?_map, List.getElem?_modify]
  split
  · rename_i hij
    subst hij
    cases l[i]? with
    | none => simp
    | some e => simp [meV]
  · rename_i hij
    simp

omit [DecidableEq κ] in
theorem mat_len (i : Nat) (v : β) (l : List (ME κ β)) : (mat i v l).length = l.length := by simp [mat]
omit [DecidableEq κ] in
theorem mat_get (i : Nat) (v : β) (l : List (ME κ β)) (j : Nat) : (mat i v l)[j]? = if i = j then (l[j]?).map (fun e => { e with v := v }) else l[j]? := by
  rw [mat, List.getElem?_modify]
  split
  · rename_i h; subst h; rfl
  · simp
omit [DecidableEq κ] in
theorem mat_map {γ : Type} (f : ME κ β → γ) (hf : ∀ e (v : β), f { e with v := v } = f e) (i : Nat) (v : β) (l : List (ME κ β)) : (mat i v l).map f = l.map f := by
  apply List.ext_getElem?
  intro j
  simp only [List.getElem?_map, mat_get]
  split
  · cases l[j]? with
    | none => rfl
    | some e => simp [hf]
  · rfl
omit [DecidableEq κ] in
theorem pair_map {γ : Type} {f : ME κ β → γ} {R : γ → γ → Prop} {l l' : List (ME κ β)} (h : l'.map f = l.map f) (hp : l.Pairwise fun a b => R (f a) (f b)) : l'.Pairwise fun a b => R (f a) (f b) := by
  have h1 := List.pairwise_map.2 hp
  rw [← h] at h1
  exact List.pairwise_map.1 h1
omit [DecidableEq κ] in
theorem MOk.mat {l : List (ME κ β)} {c : Nat} (h : MOk l c) (i : Nat) (v : β) : MOk (mat i v l) c := by
  refine ⟨pair_map (f := ME.k) (R := (· ≠ ·)) (mat_map ME.k (fun _ _ => rfl) i v l) h.ks, pair_map (f := ME.n) (R := (· ≠ ·)) (mat_map ME.n (fun _ _ => rfl) i v l) h.ns, fun e he => ?_⟩
  have h1 : e.n ∈ (Mv.mat i v l).map ME.n := List.mem_map.2 ⟨e, he, rfl⟩
  rw [mat_map ME.n (fun _ _ => rfl)] at h1
  obtain ⟨f, hf, hfe⟩ := List.mem_map.1 h1
  rw [← hfe]; exact h.lt f hf
theorem MOk.push {l : List (ME κ β)} {c : Nat} (h : MOk l c) {x : κ} (hx : mpos x l 0 = none) (v : β) : MOk (l ++ [⟨x, v, c⟩]) (c + 1) := by
  have hn := mpos_none.1 hx
  refine ⟨List.pairwise_append.2 ⟨h.ks, by simp, fun a ha b hb => ?_⟩, List.pairwise_append.2 ⟨h.ns, by simp, fun a ha b hb => ?_⟩, fun e he => ?_⟩
  · simp only [List.mem_cons, List.not_mem_nil, or_false] at hb; subst hb; exact hn a ha
  · simp only [List.mem_cons, List.not_mem_nil, or_false] at hb; subst hb; have := h.lt a ha; simp only [ne_eq]; omega
  · rcases List.mem_append.1 he with he | he
    · have := h.lt e he; omega
    · simp only [List.mem_cons, List.not_mem_nil, or_false] at he; subst he; simp
theorem MOk.put {l : List (ME κ β)} {c : Nat} (h : MOk l c) (x : κ) (v : β) : MOk (mput x v l c).1 (mput x v l c).2 := by
  unfold mput
  split
  · exact h.mat _ v
  · rename_i hx; exact h.push hx v
theorem mpos_push {x y : κ} {v : β} {c : Nat} : ∀ {l : List (ME κ β)} {i : Nat}, mpos y (l ++ [⟨x, v, c⟩]) i = match mpos y l i with | some p => some p | none => if y = x then some (i + l.length, ⟨x, v, c⟩) else none
  | [], i => by simp [mpos]
  | e :: r, i => by
    simp only [List.cons_append, mpos, List.length_cons]
    split
    · rfl
    · rw [mpos_push]
      split
      · rfl
      · simp only [show i + 1 + r.length = i + (r.length + 1) from by omega]
theorem mpos_mat {y : κ} {v : β} : ∀ {l : List (ME κ β)} {i j : Nat}, mpos y (mat i v l) j = (mpos y l j).map fun p => (p.1, if p.1 = j + i then { p.2 with v := v } else p.2)
  | [], i, j => by cases i <;> simp [mat, mpos]
  | e :: r, 0, j => by
    simp only [mat, List.modify_zero_cons, mpos]
    split
    · simp
    · cases hm : mpos y r (j + 1) with
      | none => rfl
      | some p => have := (mpos_lt (j := p.1) (e := p.2) hm).1; simp [show ¬ p.1 = j from by omega]
  | e :: r, i + 1, j => by
    have ih := mpos_mat (y := y) (v := v) (l := r) (i := i) (j := j + 1)
    simp only [mat, List.modify_succ_cons, mpos] at ih ⊢
    split
    · simp
    · rw [ih]; simp only [show j + 1 + i = j + (i + 1) from by omega]
theorem mget_put {l : List (ME κ β)} {c : Nat} (x y : κ) (v : β) : mget y (mput x v l c).1 = if y = x then some v else mget y l := by
  unfold mput
  cases hx : mpos x l 0 with
  | none =>
    simp only [mget, mpos_push]
    by_cases hy : y = x
    · subst hy; simp [hx]
    · simp only [if_neg hy]
      cases mpos y l 0 <;> simp
  | some p =>
    obtain ⟨i, e⟩ := p
    obtain ⟨_, _, h3, h4⟩ := mpos_lt hx
    simp only [mget, mpos_mat, Option.map_map]
    by_cases hy : y = x
    · subst hy; simp [hx]
    · rw [if_neg hy]
      cases hm : mpos y l 0 with
      | none => rfl
      | some p =>
        obtain ⟨j, f⟩ := p
        obtain ⟨_, _, g3, g4⟩ := mpos_lt hm
        have hij : ¬ j = 0 + i := by
          intro h
          subst h
          simp only [Nat.zero_add, Nat.sub_zero] at h3 g3
          rw [h3] at g3
          simp only [Option.some.injEq] at g3
          exact hy (by rw [← g4, ← g3, h4])
        simp [show ¬ j = i from by omega]
theorem mput_len {l : List (ME κ β)} {c : Nat} (x : κ) (v : β) : (mput x v l c).1.length = if (mget x l).isSome then l.length else l.length + 1 := by
  unfold mput mget
  cases hx : mpos x l 0 with
  | none => simp
  | some p => simp [mat_len]

section te
variable {P : Program} {rd : Option Nat} {ops : Array Oper} {p : Pst} {q : List Nat} {C : Ctx} {L M : Mem} {k : Nat} {tr : Tr} {E : Env}
variable {d : Nat} {ty : TypeId} {ps : String} {af : Array Edge} {g : Option (Nat × Bool)}

omit [DecidableEq κ] in
theorem TE_makeMap {T : TypeId} (ek : κ → Value) (ev : β → Value) (ho : ops[k]? = some ⟨some d, .makeMap T none, ty, ps, af, g⟩) (hg : GOK ops E g) (hd : Nat.blt d C.N = true)
    (h : ∀ b, C.w0.heap.size ≤ b → TE P rd ops p q C L tr ((d, .map (some b)) :: E) ((b, mapO ek ev ([] : List (ME κ β)) 0) :: M)) : TE P rd ops p q C L (.op k tr) E M :=
  TE_new (vf := fun b => .map (some b)) ho (by simp [ld, ho]) hg rfl (fun ρ w _ _ _ _ _ _ => by
    simp [execOp, Instr.makeMap, mapO]) hd h

/-- m[x]: the entry, for what is written into it next. -/
theorem TE_mapEntry {T key elem : TypeId} {x y : Operand} {i r c : Nat} {l : List (ME κ β)} {a : κ} {z : β} (ho : ops[k]? = some ⟨some d, .mapEntry T x y, ty, ps, af, g⟩) (hg : GOK ops E g) (hd : Nat.blt d C.N = true)
    (hT : P.underlying T = some (.map key elem)) (hq : KeyQ P key ek) (hz : ∀ w, (zeroValue elem).run P w = .ok (ev z) w) (hx : evalE E x = some (.map (some r))) (hy : evalE E y = some (ek a)) (hi : M[i]? = some (r, mapO ek ev l c)) (hw : C.w0.heap.size ≤ r ∨ r ∈ C.X)
    (h : TE P rd ops p q C L tr ((d, .tuple #[ev ((mget a l).getD z), .int .i64 (mborn a l c)]) :: E) (M.set i (r, mapO ek ev (ment z a l c).1 (ment z a l c).2))) : TE P rd ops p q C L (.op k tr) E M := by
  refine TE_obj (o' := mapO ek ev (ment z a l c).1 (ment z a l c).2) ho (by simp [ld, ho]) hg rfl hd hi (fun ρ w _ _ _ _ hρ hb => ?_) hw h
  have hg' := getObj_map (P := P) hb
  have hf := run_findKey (ev := ev) hq a w l
  simp only [execOp, hρ _ _ hx, hρ _ _ hy, Instr.mapEntry]
  simp only [Sem.run_bind, run_underlying hT, Result.andThen_ok, hg']
  simp only [mapO, Sem.run_bind, hq.chk, Result.andThen_ok, hf, mget, mborn, ment]
  cases hm : mpos a l 0 with
  | none =>
    have hs := setObj_map (P := P) (l' := l ++ [⟨a, z, c⟩]) (c' := c + 1) hb
    simp only [mapO, List.map_append, List.map_cons, List.map_nil, meV] at hs
    simp [Sem.run_bind, hz, goInt, meV, hs]
  | some p =>
    obtain ⟨j, e⟩ := p
    obtain ⟨_, _, h3, h4⟩ := mpos_lt hm
    have hs := setObj_map (P := P) (l' := l) (c' := c) hb
    simp only [mapO] at hs
    have hge : (l.map (meV ek ev)).toArray[j]? = some (meV ek ev e) := by simp only [Nat.sub_zero] at h3; simp [h3]
    have hkey : (meV ek ev e).key = ek a := by simp [meV, h4]
    have hst : ∀ w, (Instr.keyThatStays (ek a) (ek a)).run P w = .ok (ek a) w := fun w => by simp [Instr.keyThatStays, hq.bits]
    have hmod : (l.map (meV ek ev)).toArray.modify j (fun e => { e with key := ek a }) = (l.map (meV ek ev)).toArray := modify_id' _ _ _ (fun x hx => by
      rw [hge] at hx; simp only [Option.some.injEq] at hx; subst hx; rw [← hkey])
    simp only [Option.map_some, Option.isSome_some, if_true, Option.getD_some, Sem.run_bind, hge, hkey, hst, Result.andThen_ok, hmod, hs, Sem.run_pure, goInt]
    rfl

omit [DecidableEq κ] in
theorem findIdx_born {l : List (ME κ β)} {c : Nat} (hok : MOk l c) {j : Nat} {e : ME κ β} (hj : l[j]? = some e) : ((l.map (meV ek ev)).toArray.findIdx? fun f => (f.born : Int) == (e.n : Int)) = some j := by
  obtain ⟨hlt, hje⟩ := List.getElem?_eq_some_iff.1 hj
  simp only [List.findIdx?_toArray]
  rw [List.findIdx?_eq_some_iff_getElem]
  refine ⟨by simpa using hlt, ?_, ?_⟩
  · simp [meV, hje]
  · intro i hi
    have h1 := List.pairwise_iff_getElem.1 hok.ns i j (by omega) hlt hi
    rw [hje] at h1
    simp only [List.getElem_map, meV, beq_eq_false_iff_ne, Bool.not_eq_true]
    omega

omit [DecidableEq κ] in
/-- The entry's value is written. -/
theorem TE_entryStore {T : TypeId} {x y u : Operand} {i r c j : Nat} {l : List (ME κ β)} {e : ME κ β} {v : β} {s : Int} (ho : ops[k]? = some ⟨none, .entryStore T x y u, ty, ps, af, g⟩) (hg : GOK ops E g)
    (hx : evalE E x = some (.map (some r))) (hy : evalE E y = some (.int .i64 s)) (hu : evalE E u = some (ev v)) (hi : M[i]? = some (r, mapO ek ev l c)) (hok : MOk l c) (hj : l[j]? = some e) (hs : s = (e.n : Int)) (hw : C.w0.heap.size ≤ r ∨ r ∈ C.X)
    (h : TE P rd ops p q C L tr E (M.set i (r, mapO ek ev (mat j v l) c))) : TE P rd ops p q C L (.op k tr) E M :=
  TE_loud ho (by simp [ld, ho]) hg rfl fun a w hr hs' => by
    subst hs
    have hb := hs'.hp.get (i := i) (b := r) (o := mapO ek ev l c) (by
      obtain ⟨hlt, _⟩ := List.getElem?_eq_some_iff.1 hi
      rw [List.getElem?_append_left hlt]; exact hi)
    have hg' := getObj_map (P := P) hb
    have hf := findIdx_born (ek := ek) (ev := ev) hok hj
    have hst := setObj_map (P := P) (l' := mat j v l) (c' := c) hb
    have hrun : (execOp a.eval ⟨none, .entryStore T x y u, ty, ps, af, g⟩).run P w = .ok .skip (w.putObj r (mapO ek ev (mat j v l) c)) := by
      simp only [execOp, hr.eval hx, hr.eval hy, hr.eval hu, Instr.entryStore]
      simp only [Sem.run_bind, hg', Result.andThen_ok, mapO, asInt, asIntOf, Sem.run_pure, hf, meV_modify] at hst ⊢
      simp [hst]
    rw [hrun]
    have hlt : r < w.heap.size := (Array.getElem?_eq_some_iff.1 hb).1
    have hst' := hs'.upd hi (w' := w.putObj r (mapO ek ev (mat j v l) c)) (o' := mapO ek ev (mat j v l) c) (World.putObj_heap_same hlt) (fun k hk => World.putObj_heap_other hk) rfl rfl rfl (by simp) rfl hw
    exact ⟨hst'.hp.right, h _ _ hr hst'⟩

/-- Where the entry is, and what comes of both. -/
theorem ment_at {z : β} {x : κ} {l : List (ME κ β)} {c : Nat} : ∃ j e, (ment z x l c).1[j]? = some e ∧ e.n = mborn x l c ∧ ∀ v, mat j v (ment z x l c).1 = (mput x v l c).1 ∧ (ment z x l c).2 = (mput x v l c).2 := by
  unfold ment mborn mput
  cases hm : mpos x l 0 with
  | none =>
    refine ⟨l.length, ⟨x, z, c⟩, by simp, by simp, fun v => ?_⟩
    simp only [Option.isSome_none, Bool.false_eq_true, if_false, and_true]
    apply List.ext_getElem?
    intro i
    rw [mat_get]
    split
    · rename_i h; subst h; simp
    · rename_i h
      rcases Nat.lt_or_ge i l.length with h1 | h1
      · rw [List.getElem?_append_left h1, List.getElem?_append_left h1]
      · rw [List.getElem?_eq_none (by simp; omega), List.getElem?_eq_none (by simp; omega)]
  | some p =>
    obtain ⟨j, e⟩ := p
    obtain ⟨_, _, h3, h4⟩ := mpos_lt hm
    refine ⟨j, e, by simpa using h3, by simp, fun v => by simp⟩
theorem mget_ent {z : β} {x : κ} {l : List (ME κ β)} {c : Nat} : (mget x (ment z x l c).1).getD z = (mget x l).getD z := by
  unfold mget ment
  cases hm : mpos x l 0 with
  | some p => simp [hm]
  | none => simp [mpos_push, hm]
theorem getD_map {o : Option β} {z : β} {v : Value} (h : v = ev z) : (o.map ev).getD v = ev (o.getD z) := by
  subst h; cases o <;> rfl
theorem MOk.ent {l : List (ME κ β)} {c : Nat} (h : MOk l c) (z : β) (x : κ) : MOk (ment z x l c).1 (ment z x l c).2 := by
  unfold ment
  split
  · exact h
  · rename_i hx
    exact h.push (by simpa using hx) z
end te
end maps
end Go.Mv
