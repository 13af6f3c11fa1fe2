import Derived.OrdersIn
import Derived.RangeFuncLeaves
import Derived.Below
import Derived.WalkKit
import Derived.KernelRfl
namespace Go.Mv
open Go

/-- The wide fence, in a round or not. -/
def Fw (r : Option Nat) : Fence := { fn := fun _ => True, depth := none, alive := false, round := r }

/-- What is asked at the ways out of a piece of code; no panic. -/
structure Pst where
  n : Act → World → Prop
  r : Act → World → Prop
  x : Nat → Act → World → Prop
  g : Nat → Act → World → Prop

def Pst.Q (p : Pst) : Exit → Act → World → Prop
  | .normal => p.n
  | .ret => p.r
  | .exit i => p.x i
  | .goto l => p.g l
  | .panic _ => fun _ _ => False
  | .outgrown => fun _ _ => False

section region
variable {P : Program} {rd : Option Nat} {ops : Array Oper} {Q : Exit → Act → World → Prop} {Lp : World → Prop} {loud : Nat → Bool}

/-- What a quiet operation comes to, in whatever world in which the region's steady facts hold. -/
def QOK (P : Program) (ops : Array Oper) (Lp : World → Prop) (o : Oper) (a : Act) (v : Value) : Prop :=
  (Region.wanted o (yielded ops a.tmps) = true → ∀ w, Lp w → (execOp a.eval o).run P w = .ok (.value v) w) ∧
  (Region.wanted o (yielded ops a.tmps) = false → v = undef)

def TO (P : Program) (rd : Option Nat) (ops : Array Oper) (Q : Exit → Act → World → Prop) (Lp : World → Prop) (loud : Nat → Bool) : List Nat → Act → World → Prop
  | [], a, w => Q .normal a w
  | i :: r, a, w =>
    match ops[i]? with
    | none => False
    | some o =>
      if loud i = true then wpOpIn (Fw rd) 0 P ops Q i (fun a' w' => Lp w' ∧ TO P rd ops Q Lp loud r a' w') a w
      else ∃ v, QOK P ops Lp o a v ∧ TO P rd ops Q Lp loud r (a.put o.dst v) w

theorem TO_loud {i : Nat} {o : Oper} {r : List Nat} {a : Act} {w : World} (hi : ops[i]? = some o) (hl : loud i = true) :
    TO P rd ops Q Lp loud (i :: r) a w = wpOpIn (Fw rd) 0 P ops Q i (fun a' w' => Lp w' ∧ TO P rd ops Q Lp loud r a' w') a w := by
  simp only [TO, hi, hl, if_true]

theorem TO_quiet {i : Nat} {o : Oper} {r : List Nat} {a : Act} {w : World} (hi : ops[i]? = some o) (hl : loud i = false) :
    TO P rd ops Q Lp loud (i :: r) a w = ∃ v, QOK P ops Lp o a v ∧ TO P rd ops Q Lp loud r (a.put o.dst v) w := by
  simp only [TO, hi, hl, Bool.false_eq_true, if_false]

theorem TO_mono {i : Nat} {l1 l2 : List Nat} (h : ∀ a w, Lp w → TO P rd ops Q Lp loud l1 a w → TO P rd ops Q Lp loud l2 a w) {a : Act} {w : World} (hL : Lp w)
    (h1 : TO P rd ops Q Lp loud (i :: l1) a w) : TO P rd ops Q Lp loud (i :: l2) a w := by
  cases hi : ops[i]? with
  | none => simp [TO, hi] at h1
  | some o =>
    cases hl : loud i with
    | true =>
      rw [TO_loud hi hl] at h1 ⊢
      exact wpOpIn_mono (fun a w hk => ⟨hk.1, h a w hk.1 hk.2⟩) h1
    | false =>
      rw [TO_quiet hi hl] at h1 ⊢
      obtain ⟨v, hv, h2⟩ := h1
      exact ⟨v, hv, h _ _ hL h2⟩

/-- An act with more deferred calls. -/
def dmore (ds : List Deferred) (a : Act) : Act := { a with defers := ds ++ a.defers }

theorem wpOpIn_reput {i : Nat} {o : Oper} (hi : ops[i]? = some o) (hd : ∀ c, o.op ≠ .defer c) {a b : Act} {w : World} {K K' : Act → World → Prop}
    (he : execOp b.eval o = execOp a.eval o) (hw : Region.wanted o (yielded ops b.tmps) = Region.wanted o (yielded ops a.tmps))
    (hQ : ∀ c a w, ¬ Q (.panic c) a w)
    (hK : ∀ ds u w', K ((dmore ds a).put o.dst u) w' → K' ((dmore ds b).put o.dst u) w')
    (h : wpOpIn (Fw rd) 0 P ops Q i K a w) : wpOpIn (Fw rd) 0 P ops Q i K' b w := by
  have hK0 : ∀ u w', K (a.put o.dst u) w' → K' (b.put o.dst u) w' := fun u w' hk => hK [] u w' hk
  unfold wpOpIn at *
  simp only [hi] at *
  rw [hw]
  split
  · rename_i hwt
    simp only [hwt, if_true] at h
    unfold Oper.wpIn at *
    refine ⟨fun _ _ => trivial, ?_⟩
    have h := h.2
    rw [Oper.semAt_eq _ _ _ hd] at h ⊢
    rw [he]
    generalize (execOp a.eval o).run P w = r at *
    cases r with
    | ok x w' =>
      cases x <;> simp only [Oper.uponIn] at h ⊢
      case value u => exact hK0 _ _ h
      case skip => exact hK0 _ _ h
      case defer d => exact hK [d] _ _ h
      case enter f args =>
        refine ⟨h.1, CallsIn.mono h.2 fun e w'' he => ?_⟩
        cases e with
        | returned u => exact hK0 _ _ he
        | panicked c => exact (hQ _ _ _ he).elim
        | outgrown => exact he
      case row row args => exact ⟨h.1, RowsIn.mono h.2 fun u w'' he => hK0 _ _ he⟩
      case round l f tmps assign body =>
        refine ⟨h.1, RoundIn.mono h.2 fun e w'' he => ?_⟩
        cases e with
        | returned u => exact hK0 _ _ he
        | panicked c => exact (hQ _ _ _ he).elim
        | outgrown => exact he
    | halt x w' =>
      cases x <;> simp only [Oper.uponIn] at h ⊢
      case panic u => exact (hQ _ _ _ h).elim
  · rename_i hwt
    simp only [hwt] at h
    exact ⟨fun _ _ => trivial, hK0 _ _ h.2⟩

theorem wpOpIn_some {i : Nat} {o : Oper} (hi : ops[i]? = some o) {a : Act} {w : World} {K : Act → World → Prop} (hQ : ∀ c a w, ¬ Q (.panic c) a w) (hO : ¬ LetsOut Q)
    (h : wpOpIn (Fw rd) 0 P ops Q i K a w) : ∃ ds u w', K ((dmore ds a).put o.dst u) w' := by
  have h0 : ∀ u w', K (a.put o.dst u) w' → ∃ ds u w', K ((dmore ds a).put o.dst u) w' := fun u w' hk => ⟨[], u, w', hk⟩
  unfold wpOpIn at h
  simp only [hi] at h
  split at h
  · unfold Oper.wpIn at h
    have h := h.2
    generalize (o.semAt (Fw rd).round a.eval).run P w = r at *
    have hroom : ∀ k, (Fw rd).room k := fun k d hd => by simp [Fw] at hd
    cases r with
    | ok x w' =>
      cases x <;> simp only [Oper.uponIn] at h
      case value u => exact h0 _ _ h
      case skip => exact h0 _ _ h
      case defer => exact ⟨[_], _, _, h⟩
      case enter f args =>
        obtain ⟨e, w'', fr, hR, _⟩ := h.2.2 [] (hroom _)
        cases e with
        | returned u => exact h0 _ _ hR
        | panicked c => exact (hQ _ _ _ hR).elim
        | outgrown => exact (hO hR).elim
      case row row args =>
        obtain ⟨v, w'', hR, _⟩ := h.2 default [] (hroom _)
        exact h0 _ _ hR
      case round l f tmps assign body =>
        obtain ⟨e, w'', hR, _⟩ := h.2.2 default [] (hroom _)
        cases e with
        | returned u => exact h0 _ _ hR
        | panicked c => exact (hQ _ _ _ hR).elim
        | outgrown => exact (hO hR).elim
    | halt x w' =>
      cases x <;> simp only [Oper.uponIn] at h
      case panic u => exact (hQ _ _ _ h).elim
  · exact h0 _ _ h.2

theorem QOK.congr {o : Oper} {a b : Act} {v : Value} (he : execOp b.eval o = execOp a.eval o) (hw : Region.wanted o (yielded ops b.tmps) = Region.wanted o (yielded ops a.tmps))
    (h : QOK P ops Lp o a v) : QOK P ops Lp o b v := by
  unfold QOK at *; rw [he, hw]; exact h

theorem QOK.uniq {o : Oper} {a : Act} {u v : Value} {w : World} (hL : Lp w) (h : QOK P ops Lp o a u) (k : QOK P ops Lp o a v) : u = v := by
  cases hw : Region.wanted o (yielded ops a.tmps) with
  | true =>
    have h1 := h.1 hw w hL
    have h2 := k.1 hw w hL
    rw [h1] at h2
    injection h2 with h2
    injection h2
  | false => rw [h.2 hw, k.2 hw]

structure Good (ops : Array Oper) : Prop where
  plain : ∀ (i : Nat) (o : Oper), ops[i]? = some o → (∀ c, o.op ≠ .defer c) ∧ (∀ cs b, o.op ≠ .select cs b)

theorem swap (hg : Good ops) (hQ : ∀ c a w, ¬ Q (.panic c) a w) (hO : ¬ LetsOut Q) {i j : Nat} {oi oj : Oper} (hi : ops[i]? = some oi) (hj : ops[j]? = some oj)
    (hap : oj.apart ops oi = true) (hl : ¬ (loud j = true ∧ loud i = true)) {r : List Nat} {a : Act} {w : World} (hL : Lp w)
    (h : TO P rd ops Q Lp loud (j :: i :: r) a w) : TO P rd ops Q Lp loud (i :: j :: r) a w := by
  obtain ⟨h1, h2, h3⟩ := Oper.apart_spec hap
  obtain ⟨hdi, hsi⟩ := hg.plain i oi hi
  obtain ⟨hdj, hsj⟩ := hg.plain j oj hj
  have ei : ∀ (a : Act) u, execOp (a.put oj.dst u).eval oi = execOp a.eval oi := fun a u => execOp_put oi hsi a oj.dst u h1
  have ej : ∀ (a : Act) u, execOp (a.put oi.dst u).eval oj = execOp a.eval oj := fun a u => execOp_put oj hsj a oi.dst u h3
  have wi : ∀ (a : Act) u, Region.wanted oi (yielded ops (a.put oj.dst u).tmps) = Region.wanted oi (yielded ops a.tmps) := fun a u => wanted_put oi a oj.dst u h1
  have wj : ∀ (a : Act) u, Region.wanted oj (yielded ops (a.put oi.dst u).tmps) = Region.wanted oj (yielded ops a.tmps) := fun a u => wanted_put oj a oi.dst u h3
  have hc : ∀ (a : Act) u v, (a.put oj.dst u).put oi.dst v = (a.put oi.dst v).put oj.dst u := fun a u v => Act.put_comm a u v h2
  have hm : ∀ (ds : List Deferred) (a : Act) d u, dmore ds (a.put d u) = (dmore ds a).put d u := fun ds a d u => by cases d <;> rfl
  have me : ∀ (ds : List Deferred) (a : Act), (dmore ds a).eval = a.eval := fun _ _ => rfl
  have mt : ∀ (ds : List Deferred) (a : Act), (dmore ds a).tmps = a.tmps := fun _ _ => rfl
  cases hlj : loud j with
  | false =>
    rw [TO_quiet hj hlj] at h
    obtain ⟨vj, hvj, h⟩ := h
    cases hli : loud i with
    | false =>
      rw [TO_quiet hi hli] at h ⊢
      obtain ⟨vi, hvi, h⟩ := h
      refine ⟨vi, hvi.congr (ei a vj).symm (wi a vj).symm, ?_⟩
      rw [TO_quiet hj hlj]
      refine ⟨vj, hvj.congr (ej a vi) (wj a vi), ?_⟩
      rw [← hc]; exact h
    | true =>
      rw [TO_loud hi hli] at h ⊢
      refine wpOpIn_reput hi hdi (a := a.put oj.dst vj) (b := a) (ei a vj).symm (wi a vj).symm hQ ?_ h
      rintro ds u w' ⟨hL', ht⟩
      refine ⟨hL', ?_⟩
      rw [TO_quiet hj hlj]
      refine ⟨vj, ?_, ?_⟩
      · exact hvj.congr (by rw [ej, me]) (by rw [wj, mt])
      · rw [hm, hc] at ht; exact ht
  | true =>
    have hli : loud i = false := by
      cases h' : loud i with
      | false => rfl
      | true => exact (hl ⟨hlj, h'⟩).elim
    rw [TO_loud hj hlj] at h
    rw [TO_quiet hi hli]
    obtain ⟨ds, u, w', hL', ht⟩ := wpOpIn_some hj hQ hO h
    rw [TO_quiet hi hli] at ht
    obtain ⟨v, hv, _⟩ := ht
    have hva : QOK P ops Lp oi a v := hv.congr (by rw [ei, me]) (by rw [wi, mt])
    refine ⟨v, hva, ?_⟩
    rw [TO_loud hj hlj]
    refine wpOpIn_reput hj hdj (a := a) (b := a.put oi.dst v) (ej a v) (wj a v) hQ ?_ h
    rintro ds u w' ⟨hL', ht⟩
    refine ⟨hL', ?_⟩
    rw [TO_quiet hi hli] at ht
    obtain ⟨v', hv', ht⟩ := ht
    have hva' : QOK P ops Lp oi a v' := hv'.congr (by rw [ei, me]) (by rw [wi, mt])
    obtain rfl := hva.uniq hL hva'
    rw [hm, ← hc]; exact ht

theorem front (hg : Good ops) (hQ : ∀ c a w, ¬ Q (.panic c) a w) (hO : ¬ LetsOut Q) {i : Nat} {oi : Oper} (hi : ops[i]? = some oi) :
    ∀ (pre post : List Nat), (∀ j ∈ pre, ∃ oj, ops[j]? = some oj ∧ oj.apart ops oi = true ∧ ¬ (loud j = true ∧ loud i = true)) → ∀ (a : Act) (w : World), Lp w →
      TO P rd ops Q Lp loud (pre ++ i :: post) a w → TO P rd ops Q Lp loud (i :: (pre ++ post)) a w := by
  intro pre
  induction pre with
  | nil => intro post _ a w _ h; exact h
  | cons j pre ih =>
    intro post hp a w hL h
    obtain ⟨oj, hj, hap, hl⟩ := hp j (by simp)
    refine swap hg hQ hO hi hj hap hl hL ?_
    exact TO_mono (fun a w hL h => ih post (fun k hk => hp k (by simp [hk])) a w hL h) hL h

/-- The check of a region that draws its order: edges go back; what is not reached by edges is apart, and no two loud ones are. 'cl': who is reached, as bits. -/
def chk (ops : Array Oper) (loud : Nat → Bool) (cl : Array Nat) : Bool :=
  (List.range ops.size).all fun i =>
    match ops[i]? with
    | none => false
    | some o =>
      (match o.op with | .defer _ => false | .select .. => false | _ => true) &&
      (o.after.toList.all fun e => !Region.binds .any e || Nat.blt e.on i) &&
      (List.range i).all fun j =>
        match ops[j]? with
        | none => false
        | some oj =>
          if (cl.getD i 0).testBit j then o.after.toList.any fun e => Region.binds .any e && (e.on == j || (Nat.blt j e.on && (cl.getD e.on 0).testBit j))
          else oj.apart ops o && !(loud j && loud i)

theorem chk_spec {cl : Array Nat} (h : chk ops loud cl = true) {i : Nat} {o : Oper} (hi : ops[i]? = some o) :
    ((∀ c, o.op ≠ .defer c) ∧ (∀ cs b, o.op ≠ .select cs b)) ∧ (∀ e ∈ o.after, Region.binds .any e = true → e.on < i) ∧
    ∀ j, j < i → ∃ oj, ops[j]? = some oj ∧
      (((cl.getD i 0).testBit j = true ∧ ∃ e ∈ o.after, Region.binds .any e = true ∧ (e.on = j ∨ (j < e.on ∧ (cl.getD e.on 0).testBit j = true))) ∨
       ((cl.getD i 0).testBit j = false ∧ oj.apart ops o = true ∧ ¬ (loud j = true ∧ loud i = true))) := by
  have hlt : i < ops.size := (Array.getElem?_eq_some_iff.1 hi).1
  unfold chk at h
  rw [List.all_eq_true] at h
  have h1 := h i (by simpa using hlt)
  simp only [hi, Bool.and_eq_true] at h1
  obtain ⟨⟨h1, h2⟩, h3⟩ := h1
  refine ⟨⟨?_, ?_⟩, ?_, ?_⟩
  · intro c hc; rw [hc] at h1; simp at h1
  · intro cs b hc; rw [hc] at h1; simp at h1
  · intro e he hb
    rw [List.all_eq_true] at h2
    have := h2 e (by simpa using he)
    simp [hb] at this
    exact this
  · intro j hj
    rw [List.all_eq_true] at h3
    have h4 := h3 j (by simpa using hj)
    cases hoj : ops[j]? with
    | none => simp [hoj] at h4
    | some oj =>
      refine ⟨oj, rfl, ?_⟩
      simp only [hoj] at h4
      split at h4
      · rename_i hb
        left
        refine ⟨hb, ?_⟩
        rw [List.any_eq_true] at h4
        obtain ⟨e, he, h5⟩ := h4
        simp only [Bool.and_eq_true, Bool.or_eq_true, beq_iff_eq, Nat.blt_eq] at h5
        exact ⟨e, by simpa using he, h5.1, h5.2⟩
      · rename_i hb
        right
        simp only [Bool.and_eq_true, Bool.not_eq_true'] at h4
        refine ⟨by simpa using hb, h4.1, ?_⟩
        rintro ⟨x, y⟩
        rw [x, y] at h4
        simp at h4

theorem wpAny_of_TO {cl : Array Nat} (hc : chk ops loud cl = true) (hQ : ∀ c a w, ¬ Q (.panic c) a w) (hO : ¬ LetsOut Q) :
    ∀ (fuel : Nat) (r : List Nat) (listed : Array Bool) (a : Act) (w : World), r.Pairwise (· < ·) → (∀ j, j ∈ r ↔ j < ops.size ∧ listed.getD j true = false) → listed.size = ops.size →
      (∀ k, listed.getD k false = true → ∀ j, j < k → (cl.getD k 0).testBit j = true → listed.getD j false = true) → r.length ≤ fuel → Lp w → TO P rd ops Q Lp loud r a w →
      wpAnyIn (Fw rd) 0 P .any ops Q fuel listed a w := by
  have hgood : Good ops := ⟨fun i o hi => (chk_spec hc hi).1⟩
  have hT : ∀ {listed : Array Bool} {j : Nat}, listed.size = ops.size → j < ops.size → listed.getD j true = listed.getD j false := by
    intro listed j hs hj
    simp [show j < listed.size by omega]
  -- whoever stands first is ready
  have hfirst : ∀ (i : Nat) (r : List Nat) (listed : Array Bool), (i :: r).Pairwise (· < ·) → (∀ j, j ∈ i :: r ↔ j < ops.size ∧ listed.getD j true = false) → listed.size = ops.size → i ∈ Region.ready .any ops listed := by
    intro i r listed hp hm hs
    obtain ⟨hi1, hi2⟩ := (hm i).1 (by simp)
    rw [mem_ready]
    have hoi : ops[i]? = some ops[i] := by simp [hi1]
    refine ⟨hi2, _, hoi, fun e he hb => ?_⟩
    have hlt := (chk_spec hc hoi).2.1 e he hb
    rw [← hT hs (by omega)]
    cases hx : listed.getD e.on true with
    | true => rfl
    | false =>
      have := (hm e.on).2 ⟨by omega, hx⟩
      rcases List.mem_cons.1 this with h | h
      · omega
      · have := (List.pairwise_cons.1 hp).1 _ h; omega
  intro fuel
  induction fuel with
  | zero =>
    intro r listed a w hp hm hs hdc hlen hL h
    have hr : r = [] := List.length_eq_zero_iff.1 (by omega)
    subst hr
    refine ⟨?_, h⟩
    rw [List.eq_nil_iff_forall_not_mem]
    intro j hj
    obtain ⟨h1, o, ho, _⟩ := mem_ready.1 hj
    exact absurd ((hm j).2 ⟨(Array.getElem?_eq_some_iff.1 ho).1, h1⟩) (by simp)
  | succ fuel ih =>
    intro r listed a w hp hm hs hdc hlen hL h
    refine ⟨fun hn => ?_, fun i hi => ?_⟩
    · cases r with
      | nil => exact h
      | cons i r => exact absurd (hn ▸ hfirst i r listed hp hm hs) (by simp)
    · obtain ⟨h1, o, ho, hall⟩ := mem_ready.1 hi
      have hlt : i < ops.size := (Array.getElem?_eq_some_iff.1 ho).1
      have hir : i ∈ r := (hm i).2 ⟨hlt, h1⟩
      obtain ⟨pre, post, rfl⟩ := List.append_of_mem hir
      -- those ahead of it are independent
      have hind : ∀ j ∈ pre, ∃ oj, ops[j]? = some oj ∧ oj.apart ops o = true ∧ ¬ (loud j = true ∧ loud i = true) := by
        intro j hj
        have hji : j < i := by
          rw [List.pairwise_append] at hp
          exact hp.2.2 j hj i (by simp)
        obtain ⟨_, hback, hcl⟩ := chk_spec hc ho
        obtain ⟨oj, hoj, hcase⟩ := hcl j hji
        refine ⟨oj, hoj, ?_⟩
        rcases hcase with ⟨hb, e, he, hbi, hor⟩ | ⟨_, hap, hl⟩
        · exfalso
          have hun := ((hm j).1 (by simp [hj])).2
          have hel := hall e he hbi
          have hjl : listed.getD j false = true := by
            rcases hor with h' | h'
            · exact h' ▸ hel
            · exact hdc e.on hel j h'.1 h'.2
          rw [hT hs (by omega), hjl] at hun
          cases hun
        · exact ⟨hap, hl⟩
      have hfr := front hgood hQ hO ho pre post hind a w hL h
      have hp' : (pre ++ post).Pairwise (· < ·) := by
        rw [List.pairwise_append] at hp ⊢
        exact ⟨hp.1, (List.pairwise_cons.1 hp.2.1).2, fun x hx y hy => hp.2.2 x hx y (by simp [hy])⟩
      have hni : i ∉ pre ++ post := by
        rw [List.pairwise_append] at hp
        intro hmem
        rcases List.mem_append.1 hmem with h' | h'
        · have := hp.2.2 i h' i (by simp); omega
        · have := (List.pairwise_cons.1 hp.2.1).1 i h'; omega
      have hm' : ∀ j, j ∈ pre ++ post ↔ j < ops.size ∧ (listed.setIfInBounds i true).getD j true = false := by
        intro j
        by_cases hji : i = j
        · subst hji
          constructor
          · intro h'; exact absurd h' hni
          · rintro ⟨_, h'⟩
            simp [show i < listed.size by omega] at h'
        · rw [getD_set_ne true hji, ← hm j]
          simp only [List.mem_append, List.mem_cons]
          constructor
          · rintro (h' | h')
            · exact .inl h'
            · exact .inr (.inr h')
          · rintro (h' | h' | h')
            · exact .inl h'
            · exact absurd h'.symm hji
            · exact .inr h'
      have hs' : (listed.setIfInBounds i true).size = ops.size := by simp [hs]
      have hdc' : ∀ k, (listed.setIfInBounds i true).getD k false = true → ∀ j, j < k → (cl.getD k 0).testBit j = true → (listed.setIfInBounds i true).getD j false = true := by
        intro k hk j hjk hb
        by_cases hki : i = k
        · subst hki
          obtain ⟨_, _, hcl⟩ := chk_spec hc ho
          obtain ⟨oj, hoj, hcase⟩ := hcl j hjk
          refine getD_set_true ?_
          rcases hcase with ⟨_, e, he, hbi, hor⟩ | ⟨hb0, _⟩
          · have hel := hall e he hbi
            rcases hor with h' | h'
            · exact h' ▸ hel
            · exact hdc e.on hel j h'.1 h'.2
          · rw [hb0] at hb; cases hb
        · rw [getD_set_ne false hki] at hk
          exact getD_set_true (hdc k hk j hjk hb)
      have hlen' : (pre ++ post).length ≤ fuel := by simp at hlen ⊢; omega
      have hIH : ∀ a' w', Lp w' → TO P rd ops Q Lp loud (pre ++ post) a' w' → wpAnyIn (Fw rd) 0 P .any ops Q fuel (listed.setIfInBounds i true) a' w' :=
        fun a' w' hL' ht => ih (pre ++ post) _ a' w' hp' hm' hs' hdc' hlen' hL' ht
      cases hl : loud i with
      | true =>
        rw [TO_loud ho hl] at hfr
        exact wpOpIn_mono (fun a' w' hk => hIH a' w' hk.1 hk.2) hfr
      | false =>
        rw [TO_quiet ho hl] at hfr
        obtain ⟨v, hv, ht⟩ := hfr
        have ht' := hIH _ _ hL ht
        unfold wpOpIn
        simp only [ho]
        split
        · rename_i hw
          refine ⟨fun _ _ => trivial, ?_⟩
          rw [Oper.semAt_eq _ _ _ (hgood.plain i o ho).1, hv.1 hw w hL]
          exact ht'
        · rename_i hw
          refine ⟨fun _ _ => trivial, ?_⟩
          rw [← hv.2 (by simpa using hw)]
          exact ht'

/-- A REGION THAT DRAWS ITS ORDER, by one walk in the order of its text. -/
theorem wp_draw {id : Nat} {p : Pst} {a : Act} {w : World} {cl : Array Nat} (hm : P.follows .mixedOrders = true) (hc : chk ops loud cl = true) (hL : Lp w.drew)
    (h : TO P rd ops p.Q Lp loud (List.range ops.size) a w.drew) : (Code.region id ops true).wpIn (Fw rd) 0 P p.Q a w := by
  refine wpIn_region_any hm ?_
  refine wpAny_of_TO (loud := loud) (Lp := Lp) hc (fun c a w h => h) (fun ⟨a, w, h⟩ => h) _ (List.range ops.size) _ a _ List.pairwise_lt_range ?_ (by simp) ?_ (by simp) hL h
  · intro j
    by_cases hj : j < ops.size <;> simp [hj]
  · intro k hk j hjk hb
    by_cases hk' : k < ops.size <;> simp [hk'] at hk
/-! ### Several orders: a tree -/
def TS (P : Program) (rd : Option Nat) (ops : Array Oper) (Q : Exit → Act → World → Prop) (Lp : World → Prop) (loud : Nat → Bool) (i : Nat) (K : Act → World → Prop) (a : Act) (w : World) : Prop :=
  match ops[i]? with
  | none => False
  | some o =>
    if loud i = true then wpOpIn (Fw rd) 0 P ops Q i (fun a' w' => Lp w' ∧ K a' w') a w
    else ∃ v, QOK P ops Lp o a v ∧ K (a.put o.dst v) w

theorem TS_loud {i : Nat} {o : Oper} {K : Act → World → Prop} {a : Act} {w : World} (hi : ops[i]? = some o) (hl : loud i = true) :
    TS P rd ops Q Lp loud i K a w = wpOpIn (Fw rd) 0 P ops Q i (fun a' w' => Lp w' ∧ K a' w') a w := by
  simp only [TS, hi, hl, if_true]
theorem TS_quiet {i : Nat} {o : Oper} {K : Act → World → Prop} {a : Act} {w : World} (hi : ops[i]? = some o) (hl : loud i = false) :
    TS P rd ops Q Lp loud i K a w = ∃ v, QOK P ops Lp o a v ∧ K (a.put o.dst v) w := by
  simp only [TS, hi, hl, Bool.false_eq_true, if_false]
theorem TS_mono {i : Nat} {K K' : Act → World → Prop} (h : ∀ a w, Lp w → K a w → K' a w) {a : Act} {w : World} (hL : Lp w) (h1 : TS P rd ops Q Lp loud i K a w) : TS P rd ops Q Lp loud i K' a w := by
  cases hi : ops[i]? with
  | none => simp [TS, hi] at h1
  | some o =>
    cases hl : loud i with
    | true =>
      rw [TS_loud hi hl] at h1 ⊢
      exact wpOpIn_mono (fun a w hk => ⟨hk.1, h a w hk.1 hk.2⟩) h1
    | false =>
      rw [TS_quiet hi hl] at h1 ⊢
      obtain ⟨v, hv, h2⟩ := h1
      exact ⟨v, hv, h _ _ hL h2⟩

inductive Tr where
  | nil
  | op (i : Nat) (t : Tr)
  | fork (s t : Tr)

def TT (P : Program) (rd : Option Nat) (ops : Array Oper) (Q : Exit → Act → World → Prop) (Lp : World → Prop) (loud : Nat → Bool) : Tr → Act → World → Prop
  | .nil => fun a w => Q .normal a w
  | .op i t => TS P rd ops Q Lp loud i (TT P rd ops Q Lp loud t)
  | .fork s t => fun a w => TT P rd ops Q Lp loud s a w ∧ TT P rd ops Q Lp loud t a w

def line : Nat → Nat → Tr
  | _, 0 => .nil
  | k, m + 1 => .op k (line (k + 1) m)

theorem TT_op {i : Nat} {t : Tr} {a : Act} {w : World} : TT P rd ops Q Lp loud (.op i t) a w = TS P rd ops Q Lp loud i (TT P rd ops Q Lp loud t) a w := rfl

theorem TT_line (k m : Nat) : ∀ (a : Act) (w : World), TT P rd ops Q Lp loud (line k m) a w = TO P rd ops Q Lp loud (List.range' k m) a w := by
  induction m generalizing k with
  | zero => intro a w; rfl
  | succ m ih =>
    intro a w
    rw [List.range'_succ]
    have e : TT P rd ops Q Lp loud (line (k + 1) m) = TO P rd ops Q Lp loud (List.range' (k + 1) m) := funext fun a => funext fun w => ih (k + 1) a w
    show TS P rd ops Q Lp loud k (TT P rd ops Q Lp loud (line (k + 1) m)) a w = _
    rw [e]; rfl

theorem swapK (hg : Good ops) (hQ : ∀ c a w, ¬ Q (.panic c) a w) (hO : ¬ LetsOut Q) {i j : Nat} {oi oj : Oper} (hi : ops[i]? = some oi) (hj : ops[j]? = some oj)
    (hap : oj.apart ops oi = true) (hl : ¬ (loud j = true ∧ loud i = true)) {K : Act → World → Prop} {a : Act} {w : World} (hL : Lp w)
    (h : TS P rd ops Q Lp loud j (TS P rd ops Q Lp loud i K) a w) : TS P rd ops Q Lp loud i (TS P rd ops Q Lp loud j K) a w := by
  obtain ⟨h1, h2, h3⟩ := Oper.apart_spec hap
  obtain ⟨hdi, hsi⟩ := hg.plain i oi hi
  obtain ⟨hdj, hsj⟩ := hg.plain j oj hj
  have ei : ∀ (a : Act) u, execOp (a.put oj.dst u).eval oi = execOp a.eval oi := fun a u => execOp_put oi hsi a oj.dst u h1
  have ej : ∀ (a : Act) u, execOp (a.put oi.dst u).eval oj = execOp a.eval oj := fun a u => execOp_put oj hsj a oi.dst u h3
  have wi : ∀ (a : Act) u, Region.wanted oi (yielded ops (a.put oj.dst u).tmps) = Region.wanted oi (yielded ops a.tmps) := fun a u => wanted_put oi a oj.dst u h1
  have wj : ∀ (a : Act) u, Region.wanted oj (yielded ops (a.put oi.dst u).tmps) = Region.wanted oj (yielded ops a.tmps) := fun a u => wanted_put oj a oi.dst u h3
  have hc : ∀ (a : Act) u v, (a.put oj.dst u).put oi.dst v = (a.put oi.dst v).put oj.dst u := fun a u v => Act.put_comm a u v h2
  have hm : ∀ (ds : List Deferred) (a : Act) d u, dmore ds (a.put d u) = (dmore ds a).put d u := fun ds a d u => by cases d <;> rfl
  have me : ∀ (ds : List Deferred) (a : Act), (dmore ds a).eval = a.eval := fun _ _ => rfl
  have mt : ∀ (ds : List Deferred) (a : Act), (dmore ds a).tmps = a.tmps := fun _ _ => rfl
  cases hlj : loud j with
  | false =>
    rw [TS_quiet hj hlj] at h
    obtain ⟨vj, hvj, h⟩ := h
    cases hli : loud i with
    | false =>
      rw [TS_quiet hi hli] at h ⊢
      obtain ⟨vi, hvi, h⟩ := h
      refine ⟨vi, hvi.congr (ei a vj).symm (wi a vj).symm, ?_⟩
      rw [TS_quiet hj hlj]
      refine ⟨vj, hvj.congr (ej a vi) (wj a vi), ?_⟩
      rw [← hc]; exact h
    | true =>
      rw [TS_loud hi hli] at h ⊢
      refine wpOpIn_reput hi hdi (a := a.put oj.dst vj) (b := a) (ei a vj).symm (wi a vj).symm hQ ?_ h
      rintro ds u w' ⟨hL', ht⟩
      refine ⟨hL', ?_⟩
      rw [TS_quiet hj hlj]
      refine ⟨vj, ?_, ?_⟩
      · exact hvj.congr (by rw [ej, me]) (by rw [wj, mt])
      · rw [hm, hc] at ht; exact ht
  | true =>
    have hli : loud i = false := by
      cases h' : loud i with
      | false => rfl
      | true => exact (hl ⟨hlj, h'⟩).elim
    rw [TS_loud hj hlj] at h
    rw [TS_quiet hi hli]
    obtain ⟨ds, u, w', hL', ht⟩ := wpOpIn_some hj hQ hO h
    rw [TS_quiet hi hli] at ht
    obtain ⟨v, hv, _⟩ := ht
    have hva : QOK P ops Lp oi a v := hv.congr (by rw [ei, me]) (by rw [wi, mt])
    refine ⟨v, hva, ?_⟩
    rw [TS_loud hj hlj]
    refine wpOpIn_reput hj hdj (a := a) (b := a.put oi.dst v) (ej a v) (wj a v) hQ ?_ h
    rintro ds u w' ⟨hL', ht⟩
    refine ⟨hL', ?_⟩
    rw [TS_quiet hi hli] at ht
    obtain ⟨v', hv', ht⟩ := ht
    have hva' : QOK P ops Lp oi a v' := hv'.congr (by rw [ei, me]) (by rw [wi, mt])
    obtain rfl := hva.uniq hL hva'
    rw [hm, ← hc]; exact ht


def Tr.isNil : Tr → Bool
  | .nil => true
  | .op .. => false
  | .fork s _ => s.isNil
/-- The operation i is brought to the front. -/
def pull (ops : Array Oper) (loud : Nat → Bool) (i : Nat) : Tr → Option Tr
  | .nil => none
  | .op j t =>
    if Nat.beq i j then some t
    else match ops[j]?, ops[i]? with
      | some oj, some oi => if oj.apart ops oi && !(loud j && loud i) then (pull ops loud i t).map (.op j) else none
      | _, _ => none
  | .fork s t =>
    if loud i then (match pull ops loud i s with | some s' => some s' | none => pull ops loud i t)
    else match pull ops loud i s, pull ops loud i t with
      | some s', some t' => some (.fork s' t')
      | _, _ => none

theorem TT_nil {t : Tr} (ht : t.isNil = true) {a : Act} {w : World} (h : TT P rd ops Q Lp loud t a w) : Q .normal a w := by
  induction t with
  | nil => exact h
  | op => simp [Tr.isNil] at ht
  | fork s t ih _ => exact ih ht h.1

theorem pull_TT (hg : Good ops) (hQ : ∀ c a w, ¬ Q (.panic c) a w) (hO : ¬ LetsOut Q) {i : Nat} : ∀ (t t' : Tr), pull ops loud i t = some t' → ∀ (a : Act) (w : World), Lp w → TT P rd ops Q Lp loud t a w → TS P rd ops Q Lp loud i (TT P rd ops Q Lp loud t') a w := by
  intro t
  induction t with
  | nil => intro t' h; simp [pull] at h
  | op j t ih =>
    intro t' h a w hL ht
    simp only [pull] at h
    split at h
    · rename_i hij
      have := Nat.eq_of_beq_eq_true hij
      subst this
      simp only [Option.some.injEq] at h
      subst h; exact ht
    · split at h
      · rename_i oj oi hj hi
        split at h
        · rename_i hc
          simp only [Bool.and_eq_true, Bool.not_eq_true'] at hc
          cases hp : pull ops loud i t with
          | none => simp [hp] at h
          | some t1 =>
            simp [hp] at h; subst h
            refine swapK hg hQ hO hi hj hc.1 (fun hh => by rw [hh.1, hh.2] at hc; simp at hc) hL ?_
            exact TS_mono (fun a w hL h => ih t1 hp a w hL h) hL ht
        · cases h
      · cases h
  | fork s t ihs iht =>
    intro t' h a w hL ht
    simp only [pull] at h
    split at h
    · split at h
      · rename_i s' hs
        simp only [Option.some.injEq] at h; subst h
        exact ihs _ hs a w hL ht.1
      · exact iht _ h a w hL ht.2
    · rename_i hl
      split at h
      · rename_i s' t1 hs ht1
        simp only [Option.some.injEq] at h; subst h
        have h1 := ihs _ hs a w hL ht.1
        have h2 := iht _ ht1 a w hL ht.2
        cases hi : ops[i]? with
        | none => simp [TS, hi] at h1
        | some o =>
          rw [TS_quiet hi (by simpa using hl)] at h1 h2 ⊢
          obtain ⟨v, hv, h1⟩ := h1
          obtain ⟨u, hu, h2⟩ := h2
          obtain rfl := hv.uniq hL hu
          exact ⟨v, hv, h1, h2⟩
      · cases h

def plainOps (ops : Array Oper) : Bool := ops.toList.all fun o => match o.op with | .defer _ => false | .select .. => false | _ => true

/-- Each order that may be drawn is one of the tree's, but for independent ones. -/
def chkT (ops : Array Oper) (loud : Nat → Bool) : Nat → Array Bool → Tr → Bool
  | 0, listed, t => (Region.ready .any ops listed).isEmpty && t.isNil
  | fuel + 1, listed, t =>
    match Region.ready .any ops listed with
    | [] => t.isNil
    | r => r.all fun i => match pull ops loud i t with | none => false | some t' => chkT ops loud fuel (listed.setIfInBounds i true) t'

theorem wpAny_of_TT (hg : Good ops) (hQ : ∀ c a w, ¬ Q (.panic c) a w) (hO : ¬ LetsOut Q) : ∀ (fuel : Nat) (listed : Array Bool) (t : Tr) (a : Act) (w : World), chkT ops loud fuel listed t = true → Lp w → TT P rd ops Q Lp loud t a w →
    wpAnyIn (Fw rd) 0 P .any ops Q fuel listed a w := by
  intro fuel
  induction fuel with
  | zero =>
    intro listed t a w hc hL ht
    simp only [chkT, Bool.and_eq_true, List.isEmpty_iff] at hc
    exact ⟨hc.1, TT_nil hc.2 ht⟩
  | succ fuel ih =>
    intro listed t a w hc hL ht
    simp only [chkT] at hc
    split at hc
    · rename_i hr
      refine ⟨fun _ => TT_nil hc ht, fun i hi => by rw [hr] at hi; simp at hi⟩
    · rename_i hr
      refine ⟨fun h => absurd h hr, fun i hi => ?_⟩
      rw [List.all_eq_true] at hc
      have h1 := hc i hi
      split at h1
      · cases h1
      · rename_i t' hp
        have h2 := pull_TT hg hQ hO t t' hp a w hL ht
        have hIH : ∀ a' w', Lp w' → TT P rd ops Q Lp loud t' a' w' → wpAnyIn (Fw rd) 0 P .any ops Q fuel (listed.setIfInBounds i true) a' w' := fun a' w' hL' ht => ih _ t' a' w' h1 hL' ht
        cases ho : ops[i]? with
        | none => simp [TS, ho] at h2
        | some o =>
          cases hl : loud i with
          | true =>
            rw [TS_loud ho hl] at h2
            exact wpOpIn_mono (fun a' w' hk => hIH a' w' hk.1 hk.2) h2
          | false =>
            rw [TS_quiet ho hl] at h2
            obtain ⟨v, hv, ht⟩ := h2
            have ht' := hIH _ _ hL ht
            unfold wpOpIn
            simp only [ho]
            split
            · rename_i hw
              refine ⟨fun _ _ => trivial, ?_⟩
              rw [Oper.semAt_eq _ _ _ (hg.plain i o ho).1, hv.1 hw w hL]
              exact ht'
            · rename_i hw
              refine ⟨fun _ _ => trivial, ?_⟩
              rw [← hv.2 (by simpa using hw)]
              exact ht'

theorem wp_drawT {id : Nat} {p : Pst} {a : Act} {w : World} {t : Tr} (hm : P.follows .mixedOrders = true) (hpl : plainOps ops = true) (hc : chkT ops loud ops.size (Array.replicate ops.size false) t = true) (hL : Lp w.drew)
    (h : TT P rd ops p.Q Lp loud t a w.drew) : (Code.region id ops true).wpIn (Fw rd) 0 P p.Q a w := by
  refine wpIn_region_any hm ?_
  refine wpAny_of_TT (loud := loud) (Lp := Lp) ⟨fun i o hi => ?_⟩ (fun c a w h => h) (fun ⟨a, w, h⟩ => h) _ _ t a _ hc hL h
  have := List.all_eq_true.1 hpl o (by simpa using Array.mem_of_getElem? hi)
  refine ⟨fun c hc => by rw [hc] at this; simp at this, fun cs b hc => by rw [hc] at this; simp at this⟩
end region
end Go.Mv
