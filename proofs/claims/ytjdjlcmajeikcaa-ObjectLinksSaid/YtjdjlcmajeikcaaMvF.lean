import Derived.Test.YtjdjlcmajeikcaaMvD
namespace Go.Mv
open Go
/-- An entry: a key, a value, when it was born. -/
structure ME (κ β : Type) where
  k : κ
  v : β
  n : Nat
section maps
variable {κ β : Type} [DecidableEq κ] {ek : κ → Value} {ev : β → Value}
def mpos (x : κ) : List (ME κ β) → Nat → Option (Nat × ME κ β)
  | [], _ => none
  | e :: r, i => if x = e.k then some (i, e) else mpos x r (i + 1)
def mget (x : κ) (l : List (ME κ β)) : Option β := (mpos x l 0).map fun p => p.2.v
theorem mpos_lt {x : κ} : ∀ {l : List (ME κ β)} {i : Nat} {j : Nat} {e : ME κ β}, mpos x l i = some (j, e) → i ≤ j ∧ j < i + l.length ∧ l[j - i]? = some e ∧ e.k = x
  | [], i, j, e, h => by simp [mpos] at h
  | f :: r, i, j, e, h => by
    simp only [mpos] at h
    split at h
    · rename_i hx
      simp only [Option.some.injEq, Prod.mk.injEq] at h
      obtain ⟨rfl, rfl⟩ := h
      simp [hx]
    · obtain ⟨h1, h2, h3, h4⟩ := mpos_lt h
      refine ⟨by omega, by simp only [List.length_cons]; omega, ?_, h4⟩
      rw [show j - i = (j - (i + 1)) + 1 from by omega, List.getElem?_cons_succ]; exact h3
theorem mpos_none {x : κ} : ∀ {l : List (ME κ β)} {i : Nat}, mpos x l i = none ↔ ∀ e ∈ l, e.k ≠ x
  | [], i => by simp [mpos]
  | f :: r, i => by
    simp only [mpos]
    split
    · rename_i hx
      simp only [reduceCtorEq, List.mem_cons, ne_eq, forall_eq_or_imp, false_iff, not_and]
      exact fun h => absurd hx.symm h
    · rename_i hx
      rw [mpos_none]
      simp only [List.mem_cons, ne_eq, forall_eq_or_imp]
      exact ⟨fun h => ⟨fun e => hx e.symm, h⟩, fun h => h.2⟩
/-- The keys are unlike, so are the births, and these are past. -/
structure MOk (l : List (ME κ β)) (c : Nat) : Prop where
  ks : l.Pairwise fun a b => a.k ≠ b.k
  ns : l.Pairwise fun a b => a.n ≠ b.n
  lt : ∀ e ∈ l, e.n < c
omit [DecidableEq κ] in
theorem MOk.nil (c : Nat) : MOk ([] : List (ME κ β)) c := ⟨.nil, .nil, by simp⟩

section run
variable {P : Program} {T : TypeId}
end run
section rd
variable {P : Program} {ty : TypeId} {E : Env} {L : Mem} {x y : Operand} {T key elem : TypeId} {z : Value}
end rd
/-- Another value at a place. -/
def mat (i : Nat) (v : β) (l : List (ME κ β)) : List (ME κ β) := l.modify i fun e => { e with v := v }
/-- m[x] = v. -/
def mput (x : κ) (v : β) (l : List (ME κ β)) (c : Nat) : List (ME κ β) × Nat :=
  match mpos x l 0 with
  | some (i, _) => (mat i v l, c)
  | none => (l ++ [⟨x, v, c⟩], c + 1)

omit [DecidableEq κ] in
theorem mat_get (i : Nat) (v : β) (l : List (ME κ β)) (j : Nat) : (mat i v l)[j]? = if i = j then (l[j]?).map (fun e => { e with v := v }) else l[j]? := by
  rw [mat, List.getElem?_modify]
  split
  · rename_i h; subst h; rfl
  · simp
omit [DecidableEq κ] in
theorem mat_map {γ : Type} (f : ME κ β → γ) (hf : ∀ e (v : β), f { e with v := v } = f e) (i : Nat) (v : β) (l : List (ME κ β)) : (mat i v l).map f = l.map f := by
  apply List.ext_getElem?
  intro j
  simp only [List.getElem?_map, mat_get]
  split
  · cases l[j]? with
    | none => rfl
    | some e => simp [hf]
  · rfl
omit [DecidableEq κ] in
theorem pair_map {γ : Type} {f : ME κ β → γ} {R : γ → γ → Prop} {l l' : List (ME κ β)} (h : l'.map f = l.map f) (hp : l.Pairwise fun a b => R (f a) (f b)) : l'.Pairwise fun a b => R (f a) (f b) := by
  have h1 := List.pairwise_map.2 hp
  rw [← h] at h1
  exact List.pairwise_map.1 h1
omit [DecidableEq κ] in
theorem MOk.mat {l : List (ME κ β)} {c : Nat} (h : MOk l c) (i : Nat) (v : β) : MOk (mat i v l) c := by
  refine ⟨pair_map (f := ME.k) (R := (· ≠ ·)) (mat_map ME.k (fun _ _ => rfl) i v l) h.ks, pair_map (f := ME.n) (R := (· ≠ ·)) (mat_map ME.n (fun _ _ => rfl) i v l) h.ns, fun e he => ?_⟩
  have h1 : e.n ∈ (Mv.mat i v l).map ME.n := List.mem_map.2 ⟨e, he, rfl⟩
  rw [mat_map ME.n (fun _ _ => rfl)] at h1
  obtain ⟨f, hf, hfe⟩ := List.mem_map.1 h1
  rw [← hfe]; exact h.lt f hf
theorem MOk.push {l : List (ME κ β)} {c : Nat} (h : MOk l c) {x : κ} (hx : mpos x l 0 = none) (v : β) : MOk (l ++ [⟨x, v, c⟩]) (c + 1) := by
  have hn := mpos_none.1 hx
  refine ⟨List.pairwise_append.2 ⟨h.ks, by simp, fun a ha b hb => ?_⟩, List.pairwise_append.2 ⟨h.ns, by simp, fun a ha b hb => ?_⟩, fun e he => ?_⟩
  · simp only [List.mem_cons, List.not_mem_nil, or_false] at hb; subst hb; exact hn a ha
  · simp only [List.mem_cons, List.not_mem_nil, or_false] at hb; subst hb; have := h.lt a ha; simp only [ne_eq]; omega
  · rcases List.mem_append.1 he with he | he
    · have := h.lt e he; omega
    · simp only [List.mem_cons, List.not_mem_nil, or_false] at he; subst he; simp
theorem MOk.put {l : List (ME κ β)} {c : Nat} (h : MOk l c) (x : κ) (v : β) : MOk (mput x v l c).1 (mput x v l c).2 := by
  unfold mput
  split
  · exact h.mat _ v
  · rename_i hx; exact h.push hx v
theorem mpos_push {x y : κ} {v : β} {c : Nat} : ∀ {l : List (ME κ β)} {i : Nat}, mpos y (l ++ [⟨x, v, c⟩]) i = match mpos y l i with | some p => some p | none => if y = x then some (i + l.length, ⟨x, v, c⟩) else none
  | [], i => by simp [mpos]
  | e :: r, i => by
    simp only [List.cons_append, mpos, List.length_cons]
    split
    · rfl
    · rw [mpos_push]
      split
      · rfl
      · simp only [show i + 1 + r.length = i + (r.length + 1) from by omega]
theorem mpos_mat {y : κ} {v : β} : ∀ {l : List (ME κ β)} {i j : Nat}, mpos y (mat i v l) j = (mpos y l j).map fun p => (p.1, if p.1 = j + i then { p.2 with v := v } else p.2)
  | [], i, j => by cases i <;> simp [mat, mpos]
  | e :: r, 0, j => by
    simp only [mat, List.modify_zero_cons, mpos]
    split
    · simp
    · cases hm : mpos y r (j + 1) with
      | none => rfl
      | some p => have := (mpos_lt (j := p.1) (e := p.2) hm).1; simp [show ¬ p.1 = j from by omega]
  | e :: r, i + 1, j => by
    have ih := mpos_mat (y := y) (v := v) (l := r) (i := i) (j := j + 1)
    simp only [mat, List.modify_succ_cons, mpos] at ih ⊢
    split
    · simp
    · rw [ih]; simp only [show j + 1 + i = j + (i + 1) from by omega]
theorem mget_put {l : List (ME κ β)} {c : Nat} (x y : κ) (v : β) : mget y (mput x v l c).1 = if y = x then some v else mget y l := by
  unfold mput
  cases hx : mpos x l 0 with
  | none =>
    simp only [mget, mpos_push]
    by_cases hy : y = x
    · subst hy; simp [hx]
    · simp only [if_neg hy]
      cases mpos y l 0 <;> simp
  | some p =>
    obtain ⟨i, e⟩ := p
    obtain ⟨_, _, h3, h4⟩ := mpos_lt hx
    simp only [mget, mpos_mat, Option.map_map]
    by_cases hy : y = x
    · subst hy; simp [hx]
    · rw [if_neg hy]
      cases hm : mpos y l 0 with
      | none => rfl
      | some p =>
        obtain ⟨j, f⟩ := p
        obtain ⟨_, _, g3, g4⟩ := mpos_lt hm
        have hij : ¬ j = 0 + i := by
          intro h
          subst h
          simp only [Nat.zero_add, Nat.sub_zero] at h3 g3
          rw [h3] at g3
          simp only [Option.some.injEq] at g3
          exact hy (by rw [← g4, ← g3, h4])
        simp [show ¬ j = i from by omega]
section te
variable {P : Program} {rd : Option Nat} {ops : Array Oper} {p : Pst} {q : List Nat} {C : Ctx} {L M : Mem} {k : Nat} {tr : Tr} {E : Env}
variable {d : Nat} {ty : TypeId} {ps : String} {af : Array Edge} {g : Option (Nat × Bool)}
end te
end maps
end Go.Mv
