import Derived.Test.YthagkkmbbncclaaDoorMvApp
namespace Go.Mv
open Go

/-- The first n are the same. -/
def sameN (n : Nat) (f g : Nat → Int) : Bool := (List.range n).all fun i => f i == g i
theorem sameN_iff {n : Nat} {f g : Nat → Int} : sameN n f g = true ↔ ∀ i, i < n → f i = g i := by simp [sameN]

section
variable {P : Program} {ty : TypeId} {E : Env} {L : Mem} {v u z' : Value} {x y z : Operand} {T U el : TypeId} {k k' : IntKind} {m n : Int}

theorem eqItems_ints {e : TypeId} {xs ys : Array Value} {f g : Nat → Int} {d : Nat} (he : P.underlying e = some (.int k')) (ha : ∀ w, (isAgg e).run P w = .ok false w) (hc : P.cellsOf e = 1) (w : World) : ∀ (is : List Nat), (∀ i ∈ is, xs[i]? = some (.int k (f i)) ∧ ys[i]? = some (.int k (g i))) →
    (Op.eqItems (d + 1) e (P.cellsOf e) xs ys is).run P w = .ok (is.all fun i => f i == g i) w
  | [], _ => by simp [Op.eqItems]
  | i :: is, h => by
    obtain ⟨h1, h2⟩ := h i (by simp)
    have ih := eqItems_ints (d := d) he ha hc w is (fun j hj => h j (by simp [hj]))
    have p1 : (part e xs (i * P.cellsOf e)).run P w = .ok (.int k (f i)) w := by simp [part, ha, hc, h1]
    have p2 : (part e ys (i * P.cellsOf e)).run P w = .ok (.int k (g i)) w := by simp [part, ha, hc, h2]
    simp only [Op.eqItems, Sem.run_bind, p1, p2, Result.andThen_ok, run_equalIn_int w d e k k' _ _ he]
    cases hfg : f i == g i
    · simp [hfg]
    · simp [hfg, ih]

theorem eqIn_ints {n : Nat} {i : TypeInfo} {xs ys : Array Value} {f g : Nat → Int} {d : Nat} (hu : P.underlying T = some (.array n el)) (hi : P.info? el = some i) (he : P.underlying el = some (.int k')) (ha : ∀ w, (isAgg el).run P w = .ok false w) (hc : P.cellsOf el = 1)
    (h : ∀ i, i < n → xs[i]? = some (.int k (f i)) ∧ ys[i]? = some (.int k (g i))) (w : World) : (Op.equalIn (d + 2) T (.agg xs) (.agg ys)).run P w = .ok (sameN n f g) w := by
  rw [run_equalIn_array w (d + 1) xs ys hu hi]
  exact eqItems_ints he ha hc w _ (fun j hj => h j (by simpa using hj))

/-- == of values with several cells. -/
theorem RD.eql_agg {xs ys : Array Value} {b : Bool} (hg : P.eqGuardType P.depth T = false) (h : ∀ w, (Op.equalIn 10000 T (.agg xs) (.agg ys)).run P w = .ok b w) (hx : evalE E x = some (.agg xs)) (hy : evalE E y = some (.agg ys)) : RD P (.binOp .eql T x y U) ty E L (.bool b) :=
  RD.bin .eql (fun w => by
    simp only [Sem.run_bind, run_eqGuard_agg w _ _ _ _ _ _ hg, Result.andThen_ok, binOp, Op.equal, Op.maxDepth, h, Sem.run_pure]) hx hy
theorem RD.neq_agg {xs ys : Array Value} {b : Bool} (hg : P.eqGuardType P.depth T = false) (h : ∀ w, (Op.equalIn 10000 T (.agg xs) (.agg ys)).run P w = .ok b w) (hx : evalE E x = some (.agg xs)) (hy : evalE E y = some (.agg ys)) : RD P (.binOp .neq T x y U) ty E L (.bool (!b)) :=
  RD.bin .neq (fun w => by
    simp only [Sem.run_bind, run_eqGuard_agg w _ _ _ _ _ _ hg, Result.andThen_ok, binOp, Op.equal, Op.maxDepth, h, Sem.run_pure]) hx hy

theorem RD.build {parts : Array (Nat × Operand)} {vs : List (Nat × Value)} (hv : evalP E parts.toList = some vs) (hr : ∀ w, (Instr.build T vs.toArray).run P w = .ok v w) : RD P (.build T parts) ty E L v := fun ρ w _ _ _ _ hρ _ => by
  have e : (parts.map fun (i, x) => (i, ρ x)) = vs.toArray := by apply Array.toList_inj.1; simpa using evalP_map hρ _ _ hv
  simp only [execOp, e, Sem.run_bind, hr, Result.andThen_ok, Sem.run_pure]

variable {d : Nat} {xs ys : Array Value} {f : Field} {fs : List Field} {a b : Value} {r s : Bool} {w : World}
theorem eqF_nil : (Op.eqFields d xs ys []).run P w = .ok true w := by simp [Op.eqFields]
theorem eqF_cons (hn : (f.name == "_") = false) (ha : (part f.type xs f.offset).run P w = .ok a w) (hb : (part f.type ys f.offset).run P w = .ok b w) (he : (Op.equalIn d f.type a b).run P w = .ok r w) (hr : (Op.eqFields d xs ys fs).run P w = .ok s w) :
    (Op.eqFields d xs ys (f :: fs)).run P w = .ok (r && s) w := by
  have hn' : f.name ≠ "_" := by simpa using hn
  rw [Op.eqFields]
  simp only [if_pos hn', Sem.run_bind, ha, hb, he, Result.andThen_ok]
  cases r
  · simp
  · simpa using hr
theorem eqF_of {t : TypeId} {fs : Array Field} (hu : P.underlying t = some (.struct fs)) (hp : P.stoodInHeld t = false) (h : (Op.eqFields d xs ys fs.toList).run P w = .ok r w) : (Op.equalIn (d + 1) t (.agg xs) (.agg ys)).run P w = .ok r w := by
  have hf : P.fieldsOf t = fs := by simp [Program.fieldsOf, hu]
  rw [run_equalIn_struct (P := P) w d t xs ys (by rw [hf]; exact hu) hp, hf]
  exact h
end

theorem vecV_eq (v : Nat → Int) : vecV v = .agg (vecV v).cells := rfl
theorem idV_eq (v : Nat → Int) : idV v = .agg (idV v).cells := rfl
end Go.Mv
