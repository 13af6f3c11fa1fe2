import Derived.Test.YtcmnmigcalibdaaGreatDoorGad
import Derived.Laws.Externs
import Derived.Lib.Bytealg
namespace Go.Mv
open Go
/-- An entry: a key, a value, when it was born. -/
structure ME (κ β : Type) where
  k : κ
  v : β
  n : Nat
section maps
variable {κ β : Type} [DecidableEq κ] {ek : κ → Value} {ev : β → Value}
def meV (ek : κ → Value) (ev : β → Value) (e : ME κ β) : MapEntry := { key := ek e.k, val := ev e.v, born := e.n }
def mapO (ek : κ → Value) (ev : β → Value) (l : List (ME κ β)) (c : Nat) : Obj := .map (l.map (meV ek ev)).toArray c

/-- What a key's kind must be. -/
structure KeyQ (P : Program) (T : TypeId) (ek : κ → Value) : Prop where
  eq : ∀ a b w, (Op.equal T (ek a) (ek b)).run P w = .ok (decide (a = b)) w
  chk : ∀ e a w, (Instr.checkKey e 10000 T (ek a)).run P w = .ok () w
  far : ∀ d a b, Instr.sameNow d (ek a) (ek b) = none
  bits : ∀ a, Instr.sameBits 10000 (ek a) (ek a) = true
  und : ∃ d, P.underlying T = some d

def mpos (x : κ) : List (ME κ β) → Nat → Option (Nat × ME κ β)
  | [], _ => none
  | e :: r, i => if x = e.k then some (i, e) else mpos x r (i + 1)
def mget (x : κ) (l : List (ME κ β)) : Option β := (mpos x l 0).map fun p => p.2.v
theorem mpos_lt {x : κ} : ∀ {l : List (ME κ β)} {i : Nat} {j : Nat} {e : ME κ β}, mpos x l i = some (j, e) → i ≤ j ∧ j < i + l.length ∧ l[j - i]? = some e ∧ e.k = x
  | [], i, j, e, h => by simp [mpos] at h
  | f :: r, i, j, e, h => by
    simp only [mpos] at h
    split at h
    · rename_i hx
      simp only [Option.some.injEq, Prod.mk.injEq] at h
      obtain ⟨rfl, rfl⟩ := h
      simp [hx]
    · obtain ⟨h1, h2, h3, h4⟩ := mpos_lt h
      refine ⟨by omega, by simp only [List.length_cons]; omega, ?_, h4⟩
      rw [show j - i = (j - (i + 1)) + 1 from by omega, List.getElem?_cons_succ]; exact h3
theorem mpos_none {x : κ} : ∀ {l : List (ME κ β)} {i : Nat}, mpos x l i = none ↔ ∀ e ∈ l, e.k ≠ x
  | [], i => by simp [mpos]
  | f :: r, i => by
    simp only [mpos]
    split
    · rename_i hx
      simp only [reduceCtorEq, List.mem_cons, ne_eq, forall_eq_or_imp, false_iff, not_and]
      exact fun h => absurd hx.symm h
    · rename_i hx
      rw [mpos_none]
      simp only [List.mem_cons, ne_eq, forall_eq_or_imp]
      exact ⟨fun h => ⟨fun e => hx e.symm, h⟩, fun h => h.2⟩
/-- The keys are unlike, so are the births, and these are past. -/
structure MOk (l : List (ME κ β)) (c : Nat) : Prop where
  ks : l.Pairwise fun a b => a.k ≠ b.k
  ns : l.Pairwise fun a b => a.n ≠ b.n
  lt : ∀ e ∈ l, e.n < c
omit [DecidableEq κ] in
theorem MOk.nil (c : Nat) : MOk ([] : List (ME κ β)) c := ⟨.nil, .nil, by simp⟩

section run
variable {P : Program} {T : TypeId}
theorem run_findAsking (hq : KeyQ P T ek) (x : κ) (w : World) : ∀ (l : List (ME κ β)) (i : Nat), (Instr.findAsking T (ek x) (l.map (meV ek ev)) i).run P w = .ok ((mpos x l i).map fun p => (p.1, ev p.2.v)) w
  | [], i => by simp [Instr.findAsking, mpos]
  | e :: r, i => by
    have ih := run_findAsking hq x w r (i + 1)
    have h := hq.eq x e.k w
    simp only [List.map_cons, Instr.findAsking, mpos, meV]
    simp only [Sem.run_bind, h, Result.andThen_ok]
    by_cases hx : x = e.k
    · simp [hx]
    · simpa [hx] using ih
theorem findNow_far (hq : KeyQ P T ek) (d : TypeDesc) (x : κ) : ∀ (l : List (ME κ β)) (i : Nat), Instr.findNow d (ek x) (l.map (meV ek ev)) i = if l = [] then some none else none
  | [], i => by simp [Instr.findNow]
  | e :: r, i => by simp [Instr.findNow, meV, hq.far]
theorem run_findKey (hq : KeyQ P T ek) (x : κ) (w : World) (l : List (ME κ β)) : (Instr.findKey T (ek x) (l.map (meV ek ev))).run P w = .ok ((mpos x l 0).map fun p => (p.1, ev p.2.v)) w := by
  obtain ⟨d, hd⟩ := hq.und
  simp only [Instr.findKey]
  simp only [Sem.run_bind, run_underlying hd, Result.andThen_ok, findNow_far hq]
  by_cases hl : l = []
  · subst hl; simp [mpos]
  · simp only [if_neg hl]; exact run_findAsking hq x w l 0
end run
omit [DecidableEq κ] in
theorem getObj_map {P : Program} {w : World} {r : Nat} {l : List (ME κ β)} {c : Nat} (h : w.heap[r]? = some (mapO ek ev l c)) : (getObj r).run P w = .ok (mapO ek ev l c) w := by
  simp [getObj, Sem.run, h, mapO]
omit [DecidableEq κ] in
theorem setObj_map {P : Program} {w : World} {r : Nat} {l l' : List (ME κ β)} {c c' : Nat} (h : w.heap[r]? = some (mapO ek ev l c)) : (setObj r (mapO ek ev l' c')).run P w = .ok () (w.putObj r (mapO ek ev l' c')) := by
  simp [setObj, Sem.run, h, mapO, World.putObj]

section rd
variable {P : Program} {ty : TypeId} {E : Env} {L : Mem} {x y : Operand} {T key elem : TypeId} {z : Value}
theorem RD.lookupM {i r c : Nat} {l : List (ME κ β)} {a : κ} (hT : P.underlying T = some (.map key elem)) (hq : KeyQ P key ek) (hz : ∀ w, (zeroValue elem).run P w = .ok z w) (hx : evalE E x = some (.map (some r))) (hy : evalE E y = some (ek a)) (hi : L[i]? = some (r, mapO ek ev l c)) :
    RD P (.lookup T x y false) ty E L (((mget a l).map ev).getD z) := fun ρ w _ _ _ _ hρ hL => by
  have hb := hL.get hi
  have hg := getObj_map (P := P) hb
  have hf := run_findKey (ev := ev) hq a w l
  simp only [execOp, hρ _ _ hx, hρ _ _ hy, Instr.lookup]
  simp only [Sem.run_bind, run_underlying hT, Result.andThen_ok, hg, mapO, Sem.run_pure, hq.chk, hf, mget]
  cases hm : mpos a l 0 with
  | none => simp [hz]
  | some p => simp
theorem RD.lookupM2 {i r c : Nat} {l : List (ME κ β)} {a : κ} (hT : P.underlying T = some (.map key elem)) (hq : KeyQ P key ek) (hz : ∀ w, (zeroValue elem).run P w = .ok z w) (hx : evalE E x = some (.map (some r))) (hy : evalE E y = some (ek a)) (hi : L[i]? = some (r, mapO ek ev l c)) :
    RD P (.lookup T x y true) ty E L (.tuple #[((mget a l).map ev).getD z, .bool (mget a l).isSome]) := fun ρ w _ _ _ _ hρ hL => by
  have hb := hL.get hi
  have hg := getObj_map (P := P) hb
  have hf := run_findKey (ev := ev) hq a w l
  simp only [execOp, hρ _ _ hx, hρ _ _ hy, Instr.lookup]
  simp only [Sem.run_bind, run_underlying hT, Result.andThen_ok, hg, mapO, Sem.run_pure, hq.chk, hf, mget]
  cases hm : mpos a l 0 with
  | none => simp [hz]
  | some p => simp
end rd
/-- Another value at a place. -/
def mat (i : Nat) (v : β) (l : List (ME κ β)) : List (ME κ β) := l.modify i fun e => { e with v := v }
/-- m[x] = v. -/
def mput (x : κ) (v : β) (l : List (ME κ β)) (c : Nat) : List (ME κ β) × Nat :=
  match mpos x l 0 with
  | some (i, _) => (mat i v l, c)
  | none => (l ++ [⟨x, v, c⟩], c + 1)

omit [DecidableEq κ] in
theorem meV_modify (l : List (ME κ β)) (i : Nat) (v : β) : (l.map (meV ek ev)).toArray.modify i (fun e => { e with val := ev v }) = ((mat i v l).map (meV ek ev)).toArray := by
  apply Array.ext_getElem?
  intro j
  rw [Array.getElem?_modify]
  simp only [mat, List.getElem?_toArray, List.getElem?_map, List.getElem?_modify]
  split
  · rename_i hij
    subst hij
    cases l[i]? with
    | none => simp
    | some e => simp [meV]
  · rename_i hij
    simp

omit [DecidableEq κ] in
theorem mat_len (i : Nat) (v : β) (l : List (ME κ β)) : (mat i v l).length = l.length := by simp [mat]
omit [DecidableEq κ] in
theorem mat_get (i : Nat) (v : β) (l : List (ME κ β)) (j : Nat) : (mat i v l)[j]? = if i = j then (l[j]?).map (fun e => { e with v := v }) else l[j]? := by
  rw [mat, List.getElem?_modify]
  split
  · rename_i h; subst h; rfl
  · simp
omit [DecidableEq κ] in
theorem mat_map {γ : Type} (f : ME κ β → γ) (hf : ∀ e (v : β), f { e with v := v } = f e) (i : Nat) (v : β) (l : List (ME κ β)) : (mat i v l).map f = l.map f := by
  apply List.ext_getElem?
  intro j
  simp only [List.getElem?_map, mat_get]
  split
  · cases l[j]? with
    | none => rfl
    | some e => simp [hf]
  · rfl
omit [DecidableEq κ] in
theorem pair_map {γ : Type} {f : ME κ β → γ} {R : γ → γ → Prop} {l l' : List (ME κ β)} (h : l'.map f = l.map f) (hp : l.Pairwise fun a b => R (f a) (f b)) : l'.Pairwise fun a b => R (f a) (f b) := by
  have h1 := List.pairwise_map.2 hp
  rw [← h] at h1
  exact List.pairwise_map.1 h1
omit [DecidableEq κ] in
theorem MOk.mat {l : List (ME κ β)} {c : Nat} (h : MOk l c) (i : Nat) (v : β) : MOk (mat i v l) c := by
  refine ⟨pair_map (f := ME.k) (R := (· ≠ ·)) (mat_map ME.k (fun _ _ => rfl) i v l) h.ks, pair_map (f := ME.n) (R := (· ≠ ·)) (mat_map ME.n (fun _ _ => rfl) i v l) h.ns, fun e he => ?_⟩
  have h1 : e.n ∈ (Mv.mat i v l).map ME.n := List.mem_map.2 ⟨e, he, rfl⟩
  rw [mat_map ME.n (fun _ _ => rfl)] at h1
  obtain ⟨f, hf, hfe⟩ := List.mem_map.1 h1
  rw [← hfe]; exact h.lt f hf
theorem MOk.push {l : List (ME κ β)} {c : Nat} (h : MOk l c) {x : κ} (hx : mpos x l 0 = none) (v : β) : MOk (l ++ [⟨x, v, c⟩]) (c + 1) := by
  have hn := mpos_none.1 hx
  refine ⟨List.pairwise_append.2 ⟨h.ks, by simp, fun a ha b hb => ?_⟩, List.pairwise_append.2 ⟨h.ns, by simp, fun a ha b hb => ?_⟩, fun e he => ?_⟩
  · simp only [List.mem_cons, List.not_mem_nil, or_false] at hb; subst hb; exact hn a ha
  · simp only [List.mem_cons, List.not_mem_nil, or_false] at hb; subst hb; have := h.lt a ha; simp only [ne_eq]; omega
  · rcases List.mem_append.1 he with he | he
    · have := h.lt e he; omega
    · simp only [List.mem_cons, List.not_mem_nil, or_false] at he; subst he; simp
theorem MOk.put {l : List (ME κ β)} {c : Nat} (h : MOk l c) (x : κ) (v : β) : MOk (mput x v l c).1 (mput x v l c).2 := by
  unfold mput
  split
  · exact h.mat _ v
  · rename_i hx; exact h.push hx v
theorem mpos_push {x y : κ} {v : β} {c : Nat} : ∀ {l : List (ME κ β)} {i : Nat}, mpos y (l ++ [⟨x, v, c⟩]) i = match mpos y l i with | some p => some p | none => if y = x then some (i + l.length, ⟨x, v, c⟩) else none
  | [], i => by simp [mpos]
  | e :: r, i => by
    simp only [List.cons_append, mpos, List.length_cons]
    split
    · rfl
    · rw [mpos_push]
      split
      · rfl
      · simp only [show i + 1 + r.length = i + (r.length + 1) from by omega]
theorem mpos_mat {y : κ} {v : β} : ∀ {l : List (ME κ β)} {i j : Nat}, mpos y (mat i v l) j = (mpos y l j).map fun p => (p.1, if p.1 = j + i then { p.2 with v := v } else p.2)
  | [], i, j => by cases i <;> simp [mat, mpos]
  | e :: r, 0, j => by
    simp only [mat, List.modify_zero_cons, mpos]
    split
    · simp
    · cases hm : mpos y r (j + 1) with
      | none => rfl
      | some p => have := (mpos_lt (j := p.1) (e := p.2) hm).1; simp [show ¬ p.1 = j from by omega]
  | e :: r, i + 1, j => by
    have ih := mpos_mat (y := y) (v := v) (l := r) (i := i) (j := j + 1)
    simp only [mat, List.modify_succ_cons, mpos] at ih ⊢
    split
    · simp
    · rw [ih]; simp only [show j + 1 + i = j + (i + 1) from by omega]
theorem mget_put {l : List (ME κ β)} {c : Nat} (x y : κ) (v : β) : mget y (mput x v l c).1 = if y = x then some v else mget y l := by
  unfold mput
  cases hx : mpos x l 0 with
  | none =>
    simp only [mget, mpos_push]
    by_cases hy : y = x
    · subst hy; simp [hx]
    · simp only [if_neg hy]
      cases mpos y l 0 <;> simp
  | some p =>
    obtain ⟨i, e⟩ := p
    obtain ⟨_, _, h3, h4⟩ := mpos_lt hx
    simp only [mget, mpos_mat, Option.map_map]
    by_cases hy : y = x
    · subst hy; simp [hx]
    · rw [if_neg hy]
      cases hm : mpos y l 0 with
      | none => rfl
      | some p =>
        obtain ⟨j, f⟩ := p
        obtain ⟨_, _, g3, g4⟩ := mpos_lt hm
        have hij : ¬ j = 0 + i := by
          intro h
          subst h
          simp only [Nat.zero_add, Nat.sub_zero] at h3 g3
          rw [h3] at g3
          simp only [Option.some.injEq] at g3
          exact hy (by rw [← g4, ← g3, h4])
        simp [show ¬ j = i from by omega]
theorem mput_len {l : List (ME κ β)} {c : Nat} (x : κ) (v : β) : (mput x v l c).1.length = if (mget x l).isSome then l.length else l.length + 1 := by
  unfold mput mget
  cases hx : mpos x l 0 with
  | none => simp
  | some p => simp [mat_len]

section te
variable {P : Program} {rd : Option Nat} {ops : Array Oper} {p : Pst} {q : List Nat} {C : Ctx} {L M : Mem} {k : Nat} {tr : Tr} {E : Env}
variable {d : Nat} {ty : TypeId} {ps : String} {af : Array Edge} {g : Option (Nat × Bool)}
omit [DecidableEq κ] in
theorem TE_makeMap {T : TypeId} (ek : κ → Value) (ev : β → Value) (ho : ops[k]? = some ⟨some d, .makeMap T none, ty, ps, af, g⟩) (hg : GOK ops E g) (hd : Nat.blt d C.N = true)
    (h : ∀ b, C.w0.heap.size ≤ b → TE P rd ops p q C L tr ((d, .map (some b)) :: E) ((b, mapO ek ev ([] : List (ME κ β)) 0) :: M)) : TE P rd ops p q C L (.op k tr) E M :=
  TE_new (vf := fun b => .map (some b)) ho (by simp [ld, ho]) hg rfl (fun ρ w _ _ _ _ _ _ => by
    simp [execOp, Instr.makeMap, mapO]) hd h

theorem getD_map {o : Option β} {z : β} {v : Value} (h : v = ev z) : (o.map ev).getD v = ev (o.getD z) := by
  subst h; cases o <;> rfl
end te
end maps
end Go.Mv

namespace Go.Mv
open Go Go.Proofs
def Tr.same : Tr → Tr → Bool
  | .nil, .nil => true
  | .op i s, .op j t => Nat.beq i j && s.same t
  | .fork s t, .fork s' t' => s.same s' && t.same t'
  | _, _ => false
theorem Tr.same_eq : ∀ {s t : Tr}, s.same t = true → s = t
  | .nil, .nil, _ => rfl
  | .op i s, .op j t, h => by
    simp only [Tr.same, Bool.and_eq_true] at h
    rw [Nat.eq_of_beq_eq_true h.1, Tr.same_eq h.2]
  | .fork s t, .fork s' t', h => by
    simp only [Tr.same, Bool.and_eq_true] at h
    rw [Tr.same_eq h.1, Tr.same_eq h.2]
  | .nil, .op _ _, h => by cases h
  | .nil, .fork _ _, h => by cases h
  | .op _ _, .nil, h => by cases h
  | .op _ _, .fork _ _, h => by cases h
  | .fork _ _, .nil, h => by cases h
  | .fork _ _, .op _ _, h => by cases h
def sameS (x y : Array Bool × Tr) : Bool := (x.1.toList == y.1.toList) && x.2.same y.2
theorem sameS_eq {x y : Array Bool × Tr} (h : sameS x y = true) : x = y := by
  obtain ⟨a, s⟩ := x
  obtain ⟨b, t⟩ := y
  simp only [sameS, Bool.and_eq_true] at h
  have h1 : a.toList = b.toList := eq_of_beq h.1
  rw [Array.toList_inj.1 h1, Tr.same_eq h.2]
def addS (acc : List (Array Bool × Tr)) (x : Array Bool × Tr) : List (Array Bool × Tr) := if acc.any (sameS x) then acc else x :: acc
theorem addS_old {acc : List (Array Bool × Tr)} {x y : Array Bool × Tr} (h : y ∈ acc) : y ∈ addS acc x := by
  unfold addS; split
  · exact h
  · exact List.mem_cons_of_mem _ h
theorem addS_new (acc : List (Array Bool × Tr)) (x : Array Bool × Tr) : x ∈ addS acc x := by
  unfold addS; split
  · rename_i h
    obtain ⟨y, hy, h⟩ := List.any_eq_true.1 h
    rwa [sameS_eq h]
  · exact List.mem_cons_self
theorem foldS_old : ∀ (l acc : List (Array Bool × Tr)) {y : Array Bool × Tr}, y ∈ acc → y ∈ l.foldl addS acc
  | [], _, _, h => h
  | x :: l, acc, _, h => foldS_old l (addS acc x) (addS_old h)
theorem foldS_mem : ∀ (l acc : List (Array Bool × Tr)) {y : Array Bool × Tr}, y ∈ l → y ∈ l.foldl addS acc
  | x :: l, acc, y, h => by
    rcases List.mem_cons.1 h with rfl | h
    · exact foldS_old l _ (addS_new acc y)
    · exact foldS_mem l _ h
/-- One state's next ones; none: an order that the tree has not. -/
def stepS (ops : Array Oper) (loud : Nat → Bool) (x : Array Bool × Tr) : Option (List (Array Bool × Tr)) :=
  match Region.ready .any ops x.1 with
  | [] => if x.2.isNil then some [] else none
  | r => r.mapM fun i => (pull ops loud i x.2).map fun t' => (x.1.setIfInBounds i true, t')
def chkL (ops : Array Oper) (loud : Nat → Bool) : Nat → List (Array Bool × Tr) → Bool
  | 0, S => S.all fun x => (Region.ready .any ops x.1).isEmpty && x.2.isNil
  | fuel + 1, S => match S.mapM (stepS ops loud) with
    | none => false
    | some l => chkL ops loud fuel (l.flatten.foldl addS [])
theorem mapM_mem {α β : Type} {f : α → Option β} : ∀ {l : List α} {m : List β}, l.mapM f = some m → ∀ x ∈ l, ∃ y, f x = some y ∧ y ∈ m
  | [], _, _, x, hx => by simp at hx
  | a :: l, m, h, x, hx => by
    rw [List.mapM_cons] at h
    cases ha : f a with
    | none => rw [ha] at h; simp at h
    | some b =>
      cases hl : l.mapM f with
      | none => rw [ha, hl] at h; simp at h
      | some n =>
        rw [ha, hl] at h
        have h : b :: n = m := by simpa using h
        subst h
        rcases List.mem_cons.1 hx with rfl | hx
        · exact ⟨b, ha, List.mem_cons_self⟩
        · obtain ⟨y, h1, h2⟩ := mapM_mem hl x hx
          exact ⟨y, h1, List.mem_cons_of_mem _ h2⟩
theorem chkT_of_L (ops : Array Oper) (loud : Nat → Bool) : ∀ (fuel : Nat) (S : List (Array Bool × Tr)), chkL ops loud fuel S = true → ∀ x ∈ S, chkT ops loud fuel x.1 x.2 = true
  | 0, S, h, x, hx => by
    simp only [chkL, List.all_eq_true] at h
    exact h x hx
  | fuel + 1, S, h, x, hx => by
    simp only [chkL] at h
    split at h
    · cases h
    · rename_i l hl
      obtain ⟨y, hy, hyl⟩ := mapM_mem hl x hx
      simp only [stepS] at hy
      simp only [chkT]
      split at hy
      · rename_i hr
        rw [hr]
        show x.2.isNil = true
        split at hy
        · assumption
        · cases hy
      · rename_i hr
        split
        · rename_i hr'; exact absurd hr' hr
        · rw [List.all_eq_true]
          intro i hi
          obtain ⟨z, hz, hzy⟩ := mapM_mem hy i hi
          cases hp : pull ops loud i x.2 with
          | none => rw [hp] at hz; simp at hz
          | some t' =>
            rw [hp] at hz
            have hz : (x.1.setIfInBounds i true, t') = z := by simpa using hz
            subst hz
            exact chkT_of_L ops loud fuel _ h (x.1.setIfInBounds i true, t') (foldS_mem _ [] (List.mem_flatten.2 ⟨y, hyl, hzy⟩))
def idC (t : Nat → Int) : List Value := (idV t).cells.toList
theorem idC_len (t : Nat → Int) : (idC t).length = 32 := rfl
theorem idC_one (t : Nat → Int) : ∀ v ∈ idC t, v.oneCell' = true := List.all_eq_true.1 (show (idC t).all (fun v => v.oneCell') = true from rfl)
theorem idC_agg (t : Nat → Int) : Value.agg (idC t).toArray = idV t := rfl
def cmpF (f g : Nat → Int) : Nat → Nat → Int
  | 0, _ => 0
  | n + 1, i => if f i < g i then -1 else if g i < f i then 1 else cmpF f g n (i + 1)
def idCmp (f g : Nat → Int) : Int := cmpF f g 32 0
theorem cmpF_neg (f g : Nat → Int) : ∀ n i, cmpF f g n i < 0 ↔ ∃ k, i ≤ k ∧ k < i + n ∧ (∀ j, i ≤ j → j < k → f j = g j) ∧ f k < g k
  | 0, i => by simp only [cmpF]; constructor
               · intro h; omega
               · rintro ⟨k, h1, h2, _⟩; omega
  | n + 1, i => by
    simp only [cmpF]
    split
    · rename_i h
      exact ⟨fun _ => ⟨i, Nat.le_refl _, by omega, fun j h1 h2 => by omega, h⟩, fun _ => by decide⟩
    · rename_i h1
      split
      · rename_i h2
        constructor
        · intro h; omega
        · rintro ⟨k, hk1, hk2, hk3, hk4⟩
          exfalso
          rcases Nat.lt_or_eq_of_le hk1 with h | rfl
          · have := hk3 i (Nat.le_refl _) h; omega
          · omega
      · rename_i h2
        rw [cmpF_neg f g n (i + 1)]
        constructor
        · rintro ⟨k, hk1, hk2, hk3, hk4⟩
          refine ⟨k, by omega, by omega, fun j h3 h4 => ?_, hk4⟩
          rcases Nat.lt_or_eq_of_le h3 with h | rfl
          · exact hk3 j h h4
          · omega
        · rintro ⟨k, hk1, hk2, hk3, hk4⟩
          refine ⟨k, ?_, by omega, fun j h3 h4 => hk3 j (by omega) h4, hk4⟩
          rcases Nat.lt_or_eq_of_le hk1 with h | rfl
          · exact h
          · omega
theorem cmpF_swap (f g : Nat → Int) : ∀ n i, cmpF g f n i = - cmpF f g n i
  | 0, i => rfl
  | n + 1, i => by
    simp only [cmpF]
    rw [cmpF_swap f g n (i + 1)]
    split
    · rename_i h1; rw [if_neg (by omega)]
    · split <;> rfl
theorem cmpF_zero (f g : Nat → Int) : ∀ n i, cmpF f g n i = 0 ↔ ∀ k, i ≤ k → k < i + n → f k = g k
  | 0, i => by simp only [cmpF, true_iff]; intro k h1 h2; omega
  | n + 1, i => by
    simp only [cmpF]
    split
    · rename_i h
      constructor
      · intro h'; omega
      · intro h'; have := h' i (Nat.le_refl _) (by omega); omega
    · split
      · rename_i h
        constructor
        · intro h'; omega
        · intro h'; have := h' i (Nat.le_refl _) (by omega); omega
      · rename_i h1 h2
        rw [cmpF_zero f g n (i + 1)]
        constructor
        · intro h k h3 h4
          rcases Nat.lt_or_eq_of_le h3 with h5 | rfl
          · exact h k h5 (by omega)
          · omega
        · intro h k h3 h4; exact h k (by omega) (by omega)
theorem idCmp_neg {f g : Nat → Int} : idCmp f g < 0 ↔ ∃ k, k < 32 ∧ (∀ j, j < k → f j = g j) ∧ f k < g k := by
  rw [idCmp, cmpF_neg]
  constructor
  · rintro ⟨k, h1, h2, h3, h4⟩; exact ⟨k, by omega, fun j => h3 j (Nat.zero_le _), h4⟩
  · rintro ⟨k, h2, h3, h4⟩; exact ⟨k, Nat.zero_le _, by omega, fun j _ => h3 j, h4⟩
theorem idCmp_swap (f g : Nat → Int) : idCmp g f = - idCmp f g := cmpF_swap f g 32 0
theorem idCmp_zero {f g : Nat → Int} : idCmp f g = 0 ↔ ∀ k, k < 32 → f k = g k := by
  rw [idCmp, cmpF_zero]
  exact ⟨fun h k hk => h k (Nat.zero_le _) (by omega), fun h k _ hk => h k (by omega)⟩
theorem idCmp_irr (f : Nat → Int) : ¬ idCmp f f < 0 := by rw [idCmp_zero.2 fun _ _ => rfl]; omega
theorem idCmp_tr (f g h : Nat → Int) (h1 : idCmp f g < 0) (h2 : idCmp g h < 0) : idCmp f h < 0 := by
  rw [idCmp_neg] at *
  obtain ⟨k, hk, h3, h4⟩ := h1
  obtain ⟨m, hm, h5, h6⟩ := h2
  rcases Nat.lt_trichotomy k m with hlt | rfl | hlt
  · exact ⟨k, hk, fun j hj => (h3 j hj).trans (h5 j (by omega)), by rw [← h5 k hlt]; exact h4⟩
  · exact ⟨k, hk, fun j hj => (h3 j hj).trans (h5 j hj), by omega⟩
  · exact ⟨m, hm, fun j hj => (h3 j (by omega)).trans (h5 j hj), by rw [h3 m hlt]; exact h6⟩
theorem idCmp_congr {f g h : Nat → Int} (he : idCmp f g = 0) : idCmp f h < 0 ↔ idCmp g h < 0 := by
  rw [idCmp_zero] at he
  rw [idCmp_neg, idCmp_neg]
  constructor
  · rintro ⟨k, hk, h1, h2⟩; exact ⟨k, hk, fun j hj => by rw [← he j (by omega)]; exact h1 j hj, by rw [← he k hk]; exact h2⟩
  · rintro ⟨k, hk, h1, h2⟩; exact ⟨k, hk, fun j hj => by rw [he j (by omega)]; exact h1 j hj, by rw [he k hk]; exact h2⟩
theorem idCmp_nt (f g h : Nat → Int) (h1 : ¬ idCmp f g < 0) (h2 : ¬ idCmp g h < 0) : ¬ idCmp f h < 0 := fun h3 => by
  by_cases h4 : idCmp f g = 0
  · exact h2 ((idCmp_congr h4).1 h3)
  · exact h2 (idCmp_tr g f h (by rw [idCmp_swap]; omega) h3)
/-- Nothing stands behind the bytes. -/
def IdCan (f : Nat → Int) : Prop := ∀ i, 32 ≤ i → f i = 0
theorem eq_of_can {f g : Nat → Int} (hf : IdCan f) (hg : IdCan g) (h : idCmp f g = 0) : f = g := funext fun i => by
  by_cases hi : i < 32
  · exact idCmp_zero.1 h i hi
  · rw [hf i (by omega), hg i (by omega)]

/-- xs is the set of l. -/
def SetOf (l xs : List (Nat → Int)) : Prop := xs.Pairwise (fun x y => idCmp x y < 0) ∧ ∀ x, x ∈ xs ↔ x ∈ l
theorem srt_nodup {xs : List (Nat → Int)} (h : xs.Pairwise fun x y => idCmp x y < 0) : xs.Nodup := by
  rw [List.nodup_iff_pairwise_ne]
  exact h.imp (fun {a b} (h : idCmp a b < 0) (he : a = b) => idCmp_irr a (by rw [← he] at h; exact h))
theorem SetOf.uniq {l xs ys : List (Nat → Int)} (h1 : SetOf l xs) (h2 : SetOf l ys) : xs = ys :=
  List.Perm.eq_of_pairwise (fun a _ _ _ ha hb => absurd (idCmp_tr _ _ _ ha hb) (idCmp_irr a)) h1.1 h2.1 ((List.perm_ext_iff_of_nodup (srt_nodup h1.1) (srt_nodup h2.1)).2 fun x => (h1.2 x).trans (h2.2 x).symm)
theorem SetOf.nil : SetOf [] [] := ⟨.nil, fun _ => Iff.rfl⟩
theorem SetOf.congr {l m xs : List (Nat → Int)} (h : SetOf l xs) (hm : ∀ x, x ∈ l ↔ x ∈ m) : SetOf m xs := ⟨h.1, fun x => (h.2 x).trans (hm x)⟩
theorem take_succ_of {α : Type} {l : List α} {m : Nat} {x : α} (hx : l[m]? = some x) : l.take (m + 1) = l.take m ++ [x] := by
  obtain ⟨hlt, rfl⟩ := List.getElem?_eq_some_iff.1 hx
  exact List.take_succ_eq_append_getElem hlt
theorem SetOf.same {l D : List (Nat → Int)} {m : Nat} {x : Nat → Int} (h : SetOf (l.take m) D) (hx : l[m]? = some x) (hm : x ∈ D) : SetOf (l.take (m + 1)) D := ⟨h.1, fun y => by
  rw [take_succ_of hx, List.mem_append, ← h.2 y]
  constructor
  · exact .inl
  · rintro (h' | h')
    · exact h'
    · simp only [List.mem_cons, List.not_mem_nil, or_false] at h'; subst h'; exact hm⟩
theorem SetOf.more {l D : List (Nat → Int)} {m : Nat} {x : Nat → Int} (h : SetOf (l.take m) D) (hx : l[m]? = some x) (hl : ∀ y ∈ D, idCmp y x < 0) : SetOf (l.take (m + 1)) (D ++ [x]) := ⟨by
    rw [List.pairwise_append]
    exact ⟨h.1, by simp, fun y hy z hz => by simp only [List.mem_cons, List.not_mem_nil, or_false] at hz; subst hz; exact hl y hy⟩,
  fun y => by rw [take_succ_of hx, List.mem_append, List.mem_append, h.2 y]⟩
/-- The next one of a sorted list, behind those that were met. -/
theorem srt_next {l D : List (Nat → Int)} (hs : l.Pairwise fun x y => ¬ idCmp y x < 0) (hc : ∀ x ∈ l, IdCan x) {m : Nat} {x p : Nat → Int} (h : SetOf (l.take (m + 1)) D) (hp : l[m]? = some p) (hx : l[m + 1]? = some x) :
    (sameN 32 x p = true → SetOf (l.take (m + 1 + 1)) D) ∧ (sameN 32 x p = false → SetOf (l.take (m + 1 + 1)) (D ++ [x])) := by
  obtain ⟨hm1, rfl⟩ := List.getElem?_eq_some_iff.1 hp
  obtain ⟨hm2, rfl⟩ := List.getElem?_eq_some_iff.1 hx
  constructor
  · intro h'
    refine h.same hx ?_
    have : l[m + 1] = l[m] := eq_of_can (hc _ (List.getElem_mem _)) (hc _ (List.getElem_mem _)) (idCmp_zero.2 (sameN_iff.1 h'))
    rw [this, h.2, List.mem_take_iff_getElem]
    exact ⟨m, by omega, rfl⟩
  · intro h'
    refine h.more hx fun y hy => ?_
    rw [h.2, List.mem_take_iff_getElem] at hy
    obtain ⟨j, hj, rfl⟩ := hy
    have hj' : j < m + 1 ∧ j < l.length := by omega
    have h1 : ¬ idCmp l[m + 1] l[m] < 0 := List.pairwise_iff_getElem.1 hs m (m + 1) hm1 hm2 (by omega)
    have h2 : idCmp l[m] l[m + 1] < 0 := by
      have h3 : idCmp l[m + 1] l[m] ≠ 0 := fun h4 => by rw [sameN_iff.2 (idCmp_zero.1 h4)] at h'; cases h'
      rw [idCmp_swap]; omega
    rcases Nat.lt_succ_iff_lt_or_eq.1 hj'.1 with h4 | h4
    · have h5 : ¬ idCmp l[m] l[j] < 0 := List.pairwise_iff_getElem.1 hs j m hj'.2 hm1 h4
      by_cases h6 : idCmp l[j] l[m + 1] < 0
      · exact h6
      · exact absurd h2 (idCmp_nt _ _ _ h5 h6)
    · subst h4; exact h2

section els
variable {α : Type} {enc : α → List Value} {sz : Nat}
theorem getL_putL (vs : List Value) (cs : Array Value) (off : Nat) (h : off + vs.length ≤ cs.size) : putL cs off vs = (cs.toList.take off ++ vs ++ cs.toList.drop (off + vs.length)).toArray := by
  apply Array.ext_getElem?
  intro i
  have e : ∀ l : List Value, l.toArray[i]? = l[i]? := fun l => List.getElem?_toArray
  rw [get_putL vs cs off i h, e, List.append_assoc, ← Array.getElem?_toList]
  have hl : (cs.toList.take off).length = off := by rw [List.length_take, Array.length_toList]; omega
  by_cases h1 : i < off
  · rw [if_neg (by omega), List.getElem?_append_left (by omega), List.getElem?_take_of_lt h1]
  · rw [List.getElem?_append_right (by omega), hl]
    by_cases h2 : i < off + vs.length
    · rw [if_pos (by omega), List.getElem?_append_left (by omega)]
    · rw [if_neg (by omega), List.getElem?_append_right (by omega), List.getElem?_drop]
      congr 1; omega
theorem cat_putL (hk : ∀ x, (enc x).length = sz) {l : List α} {tl : List Value} {i : Nat} (hi : i < l.length) (z : α) : putL (cat enc l ++ tl).toArray (i * sz) (enc z) = (cat enc (l.set i z) ++ tl).toArray := by
  have hlen : (cat enc l).length = l.length * sz := cat_len hk l
  have hb : i * sz + sz ≤ l.length * sz := by
    have : (i + 1) * sz ≤ l.length * sz := Nat.mul_le_mul_right _ hi
    rwa [Nat.add_mul, Nat.one_mul] at this
  rw [getL_putL _ _ _ (by rw [hk, List.size_toArray, List.length_append]; omega), hk]
  congr 1
  rw [List.toList_toArray]
  have h1 : cat enc l = cat enc (l.take i) ++ cat enc (l.drop i) := by rw [← cat_append, List.take_append_drop]
  have h2 : cat enc (l.drop i) = enc l[i] ++ cat enc (l.drop (i + 1)) := by rw [List.drop_eq_getElem_cons hi, cat_cons]
  have h3 : (cat enc (l.take i)).length = i * sz := by rw [cat_len hk, List.length_take, Nat.min_eq_left (by omega)]
  have h4 : (enc l[i]).length = sz := hk _
  have e1 : (cat enc l ++ tl).take (i * sz) = cat enc (l.take i) := by
    rw [List.take_append_of_le_length (by omega), h1, ← h3]; exact List.take_left
  have e2 : (cat enc l ++ tl).drop (i * sz + sz) = cat enc (l.drop (i + 1)) ++ tl := by
    have : cat enc l ++ tl = (cat enc (l.take i) ++ enc l[i]) ++ (cat enc (l.drop (i + 1)) ++ tl) := by rw [h1, h2]; simp only [List.append_assoc]
    rw [this, ← h3, ← h4, ← List.length_append]; exact List.drop_left
  rw [e1, e2, List.set_eq_take_append_cons_drop, if_pos hi, cat_append, cat_cons, List.append_assoc, List.append_assoc, List.append_assoc]
end els
theorem set_take {α : Type} {zs : List α} {i : Nat} (x : α) (hi : i < zs.length) : (zs.set i x).take (i + 1) = zs.take i ++ [x] := by
  rw [take_succ_of (x := x) (by simp [hi])]
  congr 1
  rw [List.take_set_of_le (Nat.le_refl _)]
theorem BldOk.cell {α : Type} {sz : Nat} {enc : α → List Value} {u : TypeId} (hk : ∀ x, (enc x).length = sz) {l : List α} {b cap : Nat} {tl : List Value} (h : BldOk sz enc l (some (b, cap, tl))) {i : Nat} {x : α} (hi : l[i]? = some x) : ∀ w, Hp (bldMx u enc l (some (b, cap, tl))) w → ∀ (j : Nat) (v : Value), (enc x)[j]? = some v → w.cell? ⟨b, 0 + i * sz + j, none⟩ = some v := by
  rcases (h.rdx (u := u) hk) with ⟨_, h1⟩ | ⟨b', off, cap', h1, _, h2⟩
  · subst h1; simp at hi
  · simp only [bldVx, Value.slice.injEq, Option.some.injEq, Addr.mk.injEq, and_true, true_and] at h1
    obtain ⟨⟨rfl, rfl⟩, rfl⟩ := h1
    exact fun w hw j v hv => h2 w hw i x hi j v hv
theorem BldOk.set {α : Type} {sz : Nat} {enc : α → List Value} (hk : ∀ x, (enc x).length = sz) {l : List α} {b cap : Nat} {tl : List Value} (h : BldOk sz enc l (some (b, cap, tl))) (i : Nat) (x : α) : BldOk sz enc (l.set i x) (some (b, cap, tl)) :=
  ⟨by rw [List.length_set]; exact h.1, h.2.1, by have := h.2.2; rw [List.length_append, cat_len hk] at this ⊢; rw [List.length_set]; exact this⟩
theorem subVx_pre {α : Type} {sz b cap n i : Nat} {l : List α} {tl : List Value} (h : l.length = i) : subVx sz 0 i (.slice (some ⟨b, 0, none⟩) n cap) = bldVx l (some (b, cap, tl)) := by
  simp [subVx, bldVx, h]

section te
variable {P : Program} {rd : Option Nat} {ops : Array Oper} {p : Pst} {q : List Nat} {C : Ctx} {L M : Mem} {k : Nat} {tr : Tr} {E : Env}
variable {d : Nat} {ty : TypeId} {ps : String} {af : Array Edge} {g : Option (Nat × Bool)}
/-- A store of a whole element of a slice that was built up. -/
theorem TE_setE {α : Type} {sz : Nat} {enc : α → List Value} {T : TypeId} {x y : Operand} {b cap off i : Nat} {tl : List Value} {u : TypeId} {l : List α} {z : α} {v : Value} (B : Mem) (hk : ∀ x, (enc x).length = sz) (h1 : ∀ x, ∀ v ∈ enc x, v.oneCell' = true) (hM : M = bldMx u enc l (some (b, cap, tl)) ++ B)
    (ho : ops[k]? = some ⟨none, .store T x y, ty, ps, af, g⟩) (hs : ∀ w, (sizeOf T).run P w = .ok sz w) (hg : GOK ops E g) (hx : evalE E x = some (.pointer (some ⟨b, off, none⟩))) (hy : evalE E y = some v) (hv : v.cells.toList = enc z)
    (hoff : off = i * sz) (hi : i < l.length) (hw : C.w0.heap.size ≤ b ∨ b ∈ C.X) (h : TE P rd ops p q C L tr E (bldMx u enc (l.set i z) (some (b, cap, tl)) ++ B)) : TE P rd ops p q C L (.op k tr) E M := by
  subst hM
  have hb : i * sz + sz ≤ l.length * sz := by
    have : (i + 1) * sz ≤ l.length * sz := Nat.mul_le_mul_right _ hi
    rwa [Nat.add_mul, Nat.one_mul] at this
  refine TE_put (i := 0) (n := sz) ho hs hg hx hy (by rw [← Array.length_toList, hv, hk]; exact Nat.beq_refl _) (by rw [hv]; exact List.all_eq_true.2 (h1 z)) rfl (Nat.ble_eq_true_of_le (by rw [List.size_toArray, List.length_append, cat_len hk, hoff]; omega)) hw ?_
  rw [hv, hoff, cat_putL hk hi]
  exact h
theorem zeroCells_size (z : Array Value) (n : Nat) : (Builtin.zeroCells z n).size = n * z.size := by simp [Builtin.zeroCells]
theorem zeroCells_one {z : Array Value} (hz : ∀ v ∈ z.toList, v.oneCell' = true) (n : Nat) : ∀ v ∈ (Builtin.zeroCells z n).toList, v.oneCell' = true := fun v hv => by
  simp only [Builtin.zeroCells, Array.toList_map, List.mem_map] at hv
  obtain ⟨i, hi, rfl⟩ := hv
  have h0 : i < n * z.size := by simpa using hi
  have hp : 0 < z.size := by
    rcases Nat.eq_zero_or_pos z.size with h | h
    · rw [h] at h0; omega
    · exact h
  rw [getElem!_pos z _ (Nat.mod_lt _ hp)]
  exact hz _ (by simp)
/-- clear of what stands behind the first n. -/
theorem TE_clearX {α : Type} {sz : Nat} {enc : α → List Value} {x : Operand} {sT u : TypeId} {z : Value} {b cap n : Nat} {tl : List Value} {l : List α} (B : Mem) (hk : ∀ x, (enc x).length = sz) (hM : M = bldMx u enc l (some (b, cap, tl)) ++ B)
    (ho : ops[k]? = some ⟨none, .call ⟨.builtin .clear, #[x], #[sT]⟩, ty, ps, af, g⟩) (hl : ld ops q k = true) (hg : GOK ops E g) (hT : P.underlying sT = some (.slice u)) (hz : ∀ w, (zeroValue u).run P w = .ok z w) (hzs : z.cells.size = sz) (hz1 : ∀ v ∈ z.cells.toList, v.oneCell' = true)
    (hx : evalE E x = some (subVx sz n l.length (bldVx l (some (b, cap, tl))))) (hn : n ≤ l.length) (hok : BldOk sz enc l (some (b, cap, tl))) (hw : C.w0.heap.size ≤ b ∨ b ∈ C.X)
    (h : ∀ tl', BldOk sz enc (l.take n) (some (b, cap, tl')) → TE P rd ops p q C L tr E (bldMx u enc (l.take n) (some (b, cap, tl')) ++ B)) : TE P rd ops p q C L (.op k tr) E M := by
  subst hM
  refine TE_loud ho hl hg rfl fun a w hr hs' => ?_
  rcases Nat.lt_or_eq_of_le hn with hlt | rfl
  · have hc : cap ≠ n := by have := hok.1; omega
    have hlen : (cat enc l).length = l.length * sz := cat_len hk l
    have hle : n * sz + (l.length - n) * sz = l.length * sz := by rw [← Nat.add_mul]; congr 1; omega
    have hzl : (Builtin.zeroCells z.cells (l.length - n)).toList.length = (l.length - n) * sz := by simp [zeroCells_size, hzs]
    have hb := hs'.hp.get (i := 0) (b := b) (o := .cells (cat enc l ++ tl).toArray u (0, 0)) rfl
    obtain ⟨w', hrun, hb', hkk, e1, e2, e3, e4, e5⟩ := run_storeCells_at (P := P) (Builtin.zeroCells z.cells (l.length - n)).toList (cat enc l ++ tl).toArray (n * sz) 0 w hb (by rw [hzl, List.size_toArray, List.length_append]; omega) (zeroCells_one hz1 _)
    have hrun' : (execOp a.eval ⟨none, .call ⟨.builtin .clear, #[x], #[sT]⟩, ty, ps, af, g⟩).run P w = .ok (.value (.tuple #[])) w' := by
      obtain ⟨m, hm⟩ : ∃ m, l.length - n = m + 1 := ⟨l.length - n - 1, by omega⟩
      rw [hm] at hrun
      have hx' := hr.eval hx
      simp only [subVx, bldVx, if_neg hc, hm, Nat.zero_add] at hx'
      have hcl : (Builtin.clear_ #[sT] ty #[.slice (some ⟨b, n * sz, none⟩) (m + 1) (cap - n)]).run P w = .ok (.tuple #[]) w' := by
        simp [Builtin.clear_, run_underlying hT, hz, hrun]
      simp only [execOp, resolve]
      simp [invoke, builtin, hx', hcl]
    rw [hrun']
    have hst := hs'.upd (i := 0) rfl hb' hkk e1 e2 e3 e4 e5 hw
    have e : putL (cat enc l ++ tl).toArray (n * sz + 0) (Builtin.zeroCells z.cells (l.length - n)).toList = (cat enc (l.take n) ++ ((Builtin.zeroCells z.cells (l.length - n)).toList ++ tl)).toArray := by
      rw [Nat.add_zero, getL_putL _ _ _ (by rw [hzl, List.size_toArray, List.length_append]; omega), hzl, hle, List.toList_toArray]
      have h1 : cat enc l = cat enc (l.take n) ++ cat enc (l.drop n) := by rw [← cat_append, List.take_append_drop]
      have h3 : (cat enc (l.take n)).length = n * sz := by rw [cat_len hk, List.length_take, Nat.min_eq_left hn]
      have e1 : (cat enc l ++ tl).take (n * sz) = cat enc (l.take n) := by
        rw [List.take_append_of_le_length (by omega), h1, ← h3]; exact List.take_left
      have e2 : (cat enc l ++ tl).drop (l.length * sz) = tl := by rw [← hlen]; exact List.drop_left
      rw [e1, e2, List.append_assoc]
    have h9 := h ((Builtin.zeroCells z.cells (l.length - n)).toList ++ tl) ⟨by rw [List.length_take, Nat.min_eq_left hn]; have := hok.1; omega, hok.2.1, by
      have := hok.2.2
      rw [List.length_append, hlen] at this
      rw [List.length_append, cat_len hk, List.length_take, Nat.min_eq_left hn, List.length_append, hzl]; omega⟩
    rw [e] at hst
    exact ⟨hst.hp.right, h9 _ _ hr hst⟩
  · have h0 : l.length - l.length = 0 := Nat.sub_self _
    have hrun' : (execOp a.eval ⟨none, .call ⟨.builtin .clear, #[x], #[sT]⟩, ty, ps, af, g⟩).run P w = .ok (.value (.tuple #[])) w := by
      have hx' := hr.eval hx
      simp only [subVx, bldVx, h0] at hx'
      have hcl : ∀ a c, (Builtin.clear_ #[sT] ty #[.slice a 0 c]).run P w = .ok (.tuple #[]) w := fun a c => by
        cases a <;> simp [Builtin.clear_, run_underlying hT]
      simp only [execOp, resolve]
      simp [invoke, builtin, hx', hcl]
    rw [hrun']
    have h9 := h tl (by rw [List.take_length]; exact hok)
    rw [List.take_length] at h9
    exact ⟨hs'.hp.right, h9 _ _ hr hs'⟩
end te
end Go.Mv

namespace Go.Mv
open Go Go.Proofs
theorem u8_lt {a b : Int} (ha : 0 ≤ a ∧ a ≤ 255) (hb : 0 ≤ b ∧ b ≤ 255) : a.toNat.toUInt8 < b.toNat.toUInt8 ↔ a < b := by
  rw [UInt8.lt_iff_toNat_lt]
  simp only [Nat.toUInt8_eq, UInt8.toNat_ofNat']
  rw [Nat.mod_eq_of_lt (by omega), Nat.mod_eq_of_lt (by omega)]
  omega
def byI (f : Nat → Int) (i n : Nat) : List UInt8 := (List.range' i n).map fun j => (f j).toNat.toUInt8
theorem cmpB {f g : Nat → Int} (hf : IdOk f) (hg : IdOk g) : ∀ n i, Lib.compareBytes (byI f i n) (byI g i n) = cmpF f g n i
  | 0, i => rfl
  | n + 1, i => by
    have h := cmpB hf hg n (i + 1)
    unfold byI at h ⊢
    simp only [List.range'_succ, List.map_cons, Lib.compareBytes, cmpF, u8_lt (hf i) (hg i), u8_lt (hg i) (hf i), h]
theorem run_loadB {P : Program} {b off : Nat} (f : Nat → Int) (w : World) : ∀ (n i : Nat) (acc : ByteArray), (∀ j, i ≤ j → j < i + n → w.cell? ⟨b, off + j, none⟩ = some (.int .u8 (f j))) →
    ∃ r : ByteArray, (Extern.Bytes.loadBytes ⟨b, off + i, none⟩ n acc).run P w = .ok r w ∧ r.data.toList = acc.data.toList ++ byI f i n
  | 0, i, acc, _ => ⟨acc, rfl, by simp [byI]⟩
  | n + 1, i, acc, h => by
    obtain ⟨r, h1, h2⟩ := run_loadB f w n (i + 1) (acc.push (f i).toNat.toUInt8) (fun j h1 h2 => h j (by omega) (by omega))
    refine ⟨r, ?_, ?_⟩
    · have hc := h i (Nat.le_refl _) (by omega)
      have h1 : Sem.run P (Extern.Bytes.loadBytes ⟨b, off + i + 1, none⟩ n (acc.push (f i).toNat.toUInt8)) w = .ok r w := h1
      simp [Extern.Bytes.loadBytes, hc, add_none, h1]
    · rw [h2]; simp [byI, List.range'_succ, ByteArray.push]
section rd
variable {P : Program} {ty : TypeId} {E : Env} {L : Mem} {v u : Value} {x y z : Operand} {T U : TypeId}
/-- A call of a function for which the model stands in. -/
theorem RD.call_extern {f : Operand} {xs : Array Operand} {ats : Array TypeId} {fid : FuncId} {vs : List Value} (hf : evalE E f = some (.func (.func fid) #[] #[])) (ha : evalL E xs.toList = some vs) (hr : ∀ w, Hp L w → (callFunc fid vs.toArray).run P w = .ok (.value v) w) : RD P (.call ⟨.value f, xs, ats⟩) ty E L v := fun ρ w _ _ _ _ hρ hL => by
  have e : xs.map ρ = vs.toArray := by apply Array.toList_inj.1; simpa using evalL_map hρ _ _ ha
  have h := hr w hL
  simp only [execOp, resolve, hρ _ _ hf, e, Deferred.ofValue]
  simp only [Sem.run_bind, Sem.run_pure, Result.andThen_ok, invoke]
  simpa using h
/-- copy out of no slice. -/
theorem RD.copyNil {a : Option Addr} {b o dLen dCap : Nat} {dT sT el : TypeId} {n : Nat} (hT : P.underlying dT = some (.slice el)) (hz : ∀ w, (sizeOf el).run P w = .ok n w) (hx : evalE E x = some (.slice (some ⟨b, o, none⟩) dLen dCap)) (hy : evalE E y = some (.slice a 0 0)) : RD P (.call ⟨.builtin .copy, #[x, y], #[dT, sT]⟩) ty E L (.int .i64 0) :=
  RD.call_builtin (vs := [.slice (some ⟨b, o, none⟩) dLen dCap, .slice a 0 0]) (by simp [evalL, hx, hy]) (fun w _ => by
    cases a <;> simp [builtin, Builtin.copy_, run_underlying hT, hz, Builtin.lenOf, Builtin.firstCells, goInt, loadCells, loadCellsFrom, storeCells])
end rd
/-- bytealg.Compare of two ids' bytes. -/
theorem run_cmpIds {P : Program} {fid : FuncId} {fn : Func} (hf : P.funcs[fid]? = some fn) (hname : (fn.name == "runtime.NumGoroutine") = false) (hb : fn.body.isNone = true) (hn : Extern.findNext fn = none) (he : Extern.find fn = some Extern.BytealgCompare.compare)
    {f g : Nat → Int} (hfo : IdOk f) (hgo : IdOk g) {b1 o1 c1 b2 o2 c2 : Nat} {w : World} (h1 : ∀ j, j < 32 → w.cell? ⟨b1, o1 + j, none⟩ = some (.int .u8 (f j))) (h2 : ∀ j, j < 32 → w.cell? ⟨b2, o2 + j, none⟩ = some (.int .u8 (g j))) :
    (callFunc fid #[.slice (some ⟨b1, o1, none⟩) 32 c1, .slice (some ⟨b2, o2, none⟩) 32 c2]).run P w = .ok (.value (.int .i64 (idCmp f g))) w := by
  obtain ⟨r1, e1, d1⟩ := run_loadB (P := P) f w 32 0 .empty (fun j _ h => h1 j (by omega))
  obtain ⟨r2, e2, d2⟩ := run_loadB (P := P) g w 32 0 .empty (fun j _ h => h2 j (by omega))
  have e1 : Sem.run P (Extern.Bytes.loadBytes ⟨b1, o1, none⟩ 32 .empty) w = .ok r1 w := e1
  have e2 : Sem.run P (Extern.Bytes.loadBytes ⟨b2, o2, none⟩ 32 .empty) w = .ok r2 w := e2
  have hc : Extern.BytealgCompare.cmp r1 r2 = idCmp f g := by
    rw [Lib.cmp_eq, d1, d2]; exact cmpB hfo hgo 32 0
  have hcmp : (Extern.BytealgCompare.compare #[.slice (some ⟨b1, o1, none⟩) 32 c1, .slice (some ⟨b2, o2, none⟩) 32 c2]).run P w = .ok (.int .i64 (idCmp f g)) w := by
    change Sem.run P (do pure (goInt (Extern.BytealgCompare.cmp (← Extern.Bytes.bytesOf (.slice (some ⟨b1, o1, none⟩) 32 c1)) (← Extern.Bytes.bytesOf (.slice (some ⟨b2, o2, none⟩) 32 c2))))) w = _
    simp only [Extern.Bytes.bytesOf, Sem.run_bind, e1, e2, Sem.run_pure, Result.andThen]
    rw [hc]; rfl
  rw [run_callFunc_extern hf hname hb hn he, hcmp]
  rfl
theorem id_slice {H : Mem} {w : World} {i b : Nat} {t : Nat → Int} {u : TypeId} (hw : Hp H w) (hi : H[i]? = some (b, .cells (idV t).cells u (0, 0))) : ∀ j, j < 32 → w.cell? ⟨b, 0 + j, none⟩ = some (.int .u8 (t j)) := fun j hj => by
  rw [cell_of hw hi, Nat.zero_add]; exact id_at t hj
end Go.Mv
