import Derived.Test.YtjdjlcmajeikcaaMvI
import Derived.Laws.IdiomRangeMap
namespace Go.Mv
open Go Go.Proofs
section call
variable {P : Program} {rd : Option Nat} {ops : Array Oper} {p : Pst} {q : List Nat} {C : Ctx} {L M : Mem} {k : Nat} {tr : Tr} {E : Env}
variable {d : Nat} {ty : TypeId} {ps : String} {af : Array Edge} {g : Option (Nat × Bool)}
/-- At an interface's dynamic type T the method is the function f, its receiver the value itself. -/
def InvOk (P : Program) (T : TypeId) (name : String) (fid : FuncId) : Prop := ∀ v args w, (callMethod (.iface T v) name args).run P w = .ok (.enter fid (#[v] ++ args)) w
theorem invOk_of {T : TypeId} {name : String} {f : FuncId} {i : TypeInfo} {m : Method} {d0 : TypeDesc} (hi : P.info? T = some i) (hm : i.methods.find? (·.name == name) = some m) (hp : m.path.toList = []) (hf : m.func = some (f, false)) (hu : P.underlying T = some d0) (hd : ∀ e, d0 ≠ .pointer e)
    (hen : ∀ args w, (callFunc f args).run P w = .ok (.enter f args) w) : InvOk P T name f := fun v args w => by
  have hti : ∀ w, (typeInfo T).run P w = .ok i w := fun w => by simp [typeInfo, hi]
  unfold callMethod
  obtain ⟨n, hn⟩ : ∃ n, P.types.size + Made.depth = n + 1 := ⟨_, rfl⟩
  simp only [Sem.run_bind, run_program, Result.andThen_ok, hn, method, hti, hm, hp, hf, follow]
  simp only [Sem.run_pure, Result.andThen_ok, Sem.run_bind, receiverAt, run_underlying hu]
  cases d0 with
  | pointer e => exact absurd rfl (hd e)
  | _ => simp [Place.get, hen]
theorem run_invoke_go {r : Operand} {name : String} {xs : Array Operand} {ats : Array TypeId} {fid : FuncId} {T : TypeId} {rv : Value} {vs : List Value} {ρ : Operand → Value} {dst : Option Tmp} (hi : InvOk P T name fid)
    (hρ : ∀ x u, evalE E x = some u → ρ x = u) (hr : evalE E r = some (.iface T rv)) (ha : evalL E xs.toList = some vs) (w : World) :
    (execOp ρ ⟨dst, .call ⟨.invoke r name, xs, ats⟩, ty, ps, af, g⟩).run P w = .ok (.enter fid ((rv :: vs).toArray)) w := by
  have e : xs.map ρ = vs.toArray := by
    apply Array.toList_inj.1
    simpa using evalL_map hρ xs.toList vs ha
  have e2 : (#[Value.iface T rv] ++ vs.toArray).extract 1 (#[Value.iface T rv] ++ vs.toArray).size = vs.toArray := by
    apply Array.toList_inj.1
    simp
  simp only [execOp, resolve, e, hρ _ _ hr, Sem.run_bind, Sem.run_pure, Result.andThen, invoke]
  have e3 : (#[Value.iface T rv] ++ vs.toArray)[0]? = some (Value.iface T rv) := by simp
  rw [e3]
  simp only [e2]
  rw [hi rv vs.toArray w]
  congr 2
  apply Array.toList_inj.1
  simp
theorem TE_invM {r : Operand} {name : String} {xs : Array Operand} {ats : Array TypeId} {fid : FuncId} {T : TypeId} {rv : Value} {vs : List Value} (post : Value → Mem → Prop) (R A H0 : Mem) (hi : InvOk P T name fid) (ho : ops[k]? = some ⟨some d, .call ⟨.invoke r name, xs, ats⟩, ty, ps, af, g⟩) (hl : ld ops q k = true) (hg : GOK ops E g)
    (hr' : evalE E r = some (.iface T rv)) (ha : evalL E xs.toList = some vs) (hd : Nat.blt d C.N = true) (hX : ∀ e ∈ R, C.w0.heap.size ≤ e.1 ∨ e.1 ∈ C.X) (hM : ∀ a, cnt a (A ++ R) ≤ cnt a M)
    (hc : ∀ w, Hp H0 w → Calls P fid (rv :: vs).toArray w (Ret w (keys R) post)) (hs : ∀ a, cnt a H0 ≤ cnt a (A ++ R ++ L))
    (h : ∀ v H1, post v H1 → (∀ e ∈ H1, C.w0.heap.size ≤ e.1 ∨ e.1 ∈ C.X) → TE P rd ops p q C L tr ((d, v) :: E) (A ++ H1)) : TE P rd ops p q C L (.op k tr) E M :=
  TE_sp (A ++ R) (fun a => by rw [cnt_append a (A ++ R), cnt_append a M]; have := hM a; omega) <| TE_loud ho hl hg rfl fun a w hr hs0 => by
    rw [run_invoke_go hi (fun x u hu => hr.eval hu) hr' ha w]
    refine ⟨fun h => by simp [Fw] at h, ?_⟩
    have hcc : CallsIn (Fw rd) 0 P fid (rv :: vs).toArray w (Ret w (keys R) post) := (callsIn_wide (n := 0)).2 (hc w (hs0.hp.sp hs))
    refine CallsIn.mono hcc ?_
    rintro e w' ⟨v, H1, rfl, hp, hfr, hH1, hnew⟩
    have hs' : St C.w0 C.X (A ++ L ++ R) w := hs0.perm (perm_mid A R L)
    obtain ⟨h1, h2⟩ := hs'.after hX hfr hH1 hnew
    have h1' : St C.w0 C.X (A ++ H1 ++ L) w' := h1.perm (perm_mid A L H1)
    exact ⟨h1'.hp.right, h v H1 hp h2 _ _ (hr.put (by simpa using hd) v) h1'⟩
end call
section maps
variable {κ β : Type} [DecidableEq κ] {ek : κ → Value} {ev : β → Value}
section rd
variable {P : Program} {ty : TypeId} {E : Env} {L : Mem} {x y : Operand} {T key elem : TypeId}
end rd
section te
variable {P : Program} {rd : Option Nat} {ops : Array Oper} {p : Pst} {q : List Nat} {C : Ctx} {L M : Mem} {k : Nat} {tr : Tr} {E : Env}
variable {d : Nat} {ty : TypeId} {ps : String} {af : Array Edge} {g : Option (Nat × Bool)}
end te
end maps
end Go.Mv
