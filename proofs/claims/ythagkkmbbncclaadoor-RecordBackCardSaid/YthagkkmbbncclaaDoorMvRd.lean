import Derived.Test.YthagkkmbbncclaaDoorMvOps
namespace Go.Mv
open Go

section rd
variable {P : Program} {ty : TypeId} {E : Env} {L : Mem} {v u z' : Value} {x y z : Operand} {T U : TypeId} {k : IntKind} {m n : Int}

theorem RD.move (hx : evalE E x = some v) : RD P (.move x) ty E L v := fun ρ w _ _ _ _ hρ _ => by simp [execOp, hρ _ _ hx]
theorem RD.assign (hx : evalE E x = some v) : RD P (.assign x) ty E L v := fun ρ w _ _ _ _ hρ _ => by simp [execOp, hρ _ _ hx]
theorem RD.pickT (hc : evalE E z = some (.bool true)) (hx : evalE E x = some v) : RD P (.pick z x y) ty E L v := fun ρ w _ _ _ _ hρ _ => by simp [execOp, hρ _ _ hc, hρ _ _ hx, asBool]
theorem RD.pickF (hc : evalE E z = some (.bool false)) (hy : evalE E y = some v) : RD P (.pick z x y) ty E L v := fun ρ w _ _ _ _ hρ _ => by simp [execOp, hρ _ _ hc, hρ _ _ hy, asBool]

theorem RD.bin (op : BinOp) (hr : ∀ w, (do eqGuard op T x y u v; binOp op T u v).run P w = .ok z' w) (hx : evalE E x = some u) (hy : evalE E y = some v) : RD P (.binOp op T x y U) ty E L z' := fun ρ w _ _ _ _ hρ _ => by
  have := hr w
  simp only [execOp, hρ _ _ hx, hρ _ _ hy, Sem.run_bind] at this ⊢
  rw [this]; rfl

theorem RD.lss (hx : evalE E x = some (.int k m)) (hy : evalE E y = some (.int k n)) : RD P (.binOp .lss T x y U) ty E L (.bool (decide (m < n))) := RD.bin .lss (fun w => by simp [eqGuard, binOp, Op.intCmp]) hx hy
theorem RD.leq (hx : evalE E x = some (.int k m)) (hy : evalE E y = some (.int k n)) : RD P (.binOp .leq T x y U) ty E L (.bool (decide (m ≤ n))) := RD.bin .leq (fun w => by simp [eqGuard, binOp, Op.intCmp]) hx hy
theorem RD.gtr (hx : evalE E x = some (.int k m)) (hy : evalE E y = some (.int k n)) : RD P (.binOp .gtr T x y U) ty E L (.bool (decide (n < m))) := RD.bin .gtr (fun w => by simp [eqGuard, binOp, Op.intCmp]) hx hy
theorem RD.geq (hx : evalE E x = some (.int k m)) (hy : evalE E y = some (.int k n)) : RD P (.binOp .geq T x y U) ty E L (.bool (decide (n ≤ m))) := RD.bin .geq (fun w => by simp [eqGuard, binOp, Op.intCmp]) hx hy
theorem RD.eql (hx : evalE E x = some (.int k m)) (hy : evalE E y = some (.int k n)) : RD P (.binOp .eql T x y U) ty E L (.bool (decide (m = n))) := RD.bin .eql (fun w => by simp [eqGuard, binOp, Op.intCmp]; rfl) hx hy
theorem RD.neq (hx : evalE E x = some (.int k m)) (hy : evalE E y = some (.int k n)) : RD P (.binOp .neq T x y U) ty E L (.bool (!decide (m = n))) := RD.bin .neq (fun w => by simp [eqGuard, binOp, Op.intCmp, bne]; rfl) hx hy
theorem RD.add (hx : evalE E x = some (.int k m)) (hy : evalE E y = some (.int k n)) : RD P (.binOp .add T x y U) ty E L (.int k (k.wrap (m + n))) := RD.bin .add (fun w => by simp [eqGuard, binOp, Op.intArith]) hx hy
theorem RD.sub (hx : evalE E x = some (.int k m)) (hy : evalE E y = some (.int k n)) : RD P (.binOp .sub T x y U) ty E L (.int k (k.wrap (m - n))) := RD.bin .sub (fun w => by simp [eqGuard, binOp, Op.intArith]) hx hy
theorem RD.mulI (hx : evalE E x = some (.int .i64 m)) (hy : evalE E y = some (.int .i64 n)) (h1 : -9223372036854775808 ≤ m * n) (h2 : m * n ≤ 9223372036854775807) : RD P (.binOp .mul T x y U) ty E L (.int .i64 (m * n)) :=
  RD.bin .mul (fun w => by simp [eqGuard, binOp, Op.intArith]; exact IntWalk.i64_in _ ⟨h1, h2⟩) hx hy
theorem RD.mul (hx : evalE E x = some (.int k m)) (hy : evalE E y = some (.int k n)) : RD P (.binOp .mul T x y U) ty E L (.int k (k.wrap (m * n))) := RD.bin .mul (fun w => by simp [eqGuard, binOp, Op.intArith]) hx hy
theorem RD.rem (hx : evalE E x = some (.int k m)) (hy : evalE E y = some (.int k n)) (h0 : n ≠ 0) : RD P (.binOp .rem T x y U) ty E L (.int k (m.tmod n)) := RD.bin .rem (fun w => by simp [eqGuard, binOp, Op.intDiv, h0]) hx hy
theorem RD.quo (hx : evalE E x = some (.int k m)) (hy : evalE E y = some (.int k n)) (h0 : n ≠ 0) : RD P (.binOp .quo T x y U) ty E L (.int k (k.wrap (m.tdiv n))) := RD.bin .quo (fun w => by simp [eqGuard, binOp, Op.intDiv, h0]) hx hy

theorem wrap64_id {a : Int} (h1 : -9223372036854775808 ≤ a) (h2 : a ≤ 9223372036854775807) : IntKind.i64.wrap a = a := IntWalk.i64_in a ⟨h1, h2⟩

/-- int's sums, where they are in bounds. -/
theorem RD.addI (hx : evalE E x = some (.int .i64 m)) (hy : evalE E y = some (.int .i64 n)) (h1 : -9223372036854775808 ≤ m + n) (h2 : m + n ≤ 9223372036854775807) : RD P (.binOp .add T x y U) ty E L (.int .i64 (m + n)) := by
  have := RD.add (P := P) (ty := ty) (L := L) (T := T) (U := U) hx hy; rwa [wrap64_id h1 h2] at this
theorem RD.subI (hx : evalE E x = some (.int .i64 m)) (hy : evalE E y = some (.int .i64 n)) (h1 : -9223372036854775808 ≤ m - n) (h2 : m - n ≤ 9223372036854775807) : RD P (.binOp .sub T x y U) ty E L (.int .i64 (m - n)) := by
  have := RD.sub (P := P) (ty := ty) (L := L) (T := T) (U := U) hx hy; rwa [wrap64_id h1 h2] at this

theorem RD.not {b : Bool} (hx : evalE E x = some (.bool b)) : RD P (.unOp .not T x) ty E L (.bool (!b)) := fun ρ w _ _ _ _ hρ _ => by simp [execOp, hρ _ _ hx, Op.unary]

theorem RD.conv {k' : IntKind} {d : TypeDesc} (hS : ∀ w, (underlying T).run P w = .ok d w) (hU : ∀ w, (underlying U).run P w = .ok (.int k') w) (hx : evalE E x = some (.int k m)) : RD P (.convert T U x) ty E L (.int k' (k'.wrap m)) := fun ρ w _ _ _ _ hρ _ => by
  simp [execOp, hρ _ _ hx, convert, hS, hU, Conv.intToInt]

theorem RD.convI {d : TypeDesc} (hS : ∀ w, (underlying T).run P w = .ok d w) (hU : ∀ w, (underlying U).run P w = .ok (.int .i64) w) (hx : evalE E x = some (.int k m)) (h1 : -9223372036854775808 ≤ m) (h2 : m ≤ 9223372036854775807) : RD P (.convert T U x) ty E L (.int .i64 m) := by
  have := RD.conv (P := P) (ty := ty) (L := L) hS hU hx; rwa [wrap64_id h1 h2] at this

theorem RD.extract {vs : Array Value} {i : Nat} (hx : evalE E x = some (.tuple vs)) (hi : vs[i]? = some v) : RD P (.extract x i) ty E L v := fun ρ w _ _ _ _ hρ _ => by simp [execOp, hρ _ _ hx, Instr.extract, hi]

theorem RD.nilCheckP {a : Addr} (hx : evalE E x = some (.pointer (some a))) : RD P (.nilCheck x) ty E L (.pointer (some a)) := fun ρ w _ _ _ _ hρ _ => by simp [execOp, hρ _ _ hx]

theorem RD.fieldAddr {b off f o n : Nat} {fs : Array Field} {fl : Field} (hS : ∀ w, (underlying T).run P w = .ok (.struct fs) w) (hf : fs[f]? = some fl) (ho : off + fl.offset = o) (hz : ∀ w, (sizeOf fl.type).run P w = .ok (n + 1) w)
    (hx : evalE E x = some (.pointer (some ⟨b, off, none⟩))) : RD P (.fieldAddr T x f) ty E L (.pointer (some ⟨b, o, none⟩)) := fun ρ w _ _ _ _ hρ _ => by
  subst ho
  simp only [execOp, hρ _ _ hx, Instr.fieldAt]
  simp [hS, hf, Instr.sureAddr, fieldPlace, hz, Addr.add]

theorem RD.indexAddrA {b off len sz : Nat} {el : TypeId} {i : Int} (hS : ∀ w, (underlying T).run P w = .ok (.array len el) w) (hz : ∀ w, (sizeOf el).run P w = .ok sz w)
    (hx : evalE E x = some (.pointer (some ⟨b, off, none⟩))) (hy : evalE E y = some (.int k i)) (h0 : 0 ≤ i) (h1 : i < len) : RD P (.indexAddr T x y) ty E L (.pointer (some ⟨b, off + i.toNat * sz, none⟩)) := fun ρ w _ _ _ _ hρ _ => by
  simp only [execOp, hρ _ _ hx, hρ _ _ hy, Instr.indexAt]
  simp [hS, Instr.sureAddr, asIntOf, hz, h0, h1, Addr.add]

theorem RD.indexAddrS {b off len cap sz : Nat} {el : TypeId} {i : Int} (hS : ∀ w, (underlying T).run P w = .ok (.slice el) w) (hz : ∀ w, (sizeOf el).run P w = .ok sz w)
    (hx : evalE E x = some (.slice (some ⟨b, off, none⟩) len cap)) (hy : evalE E y = some (.int k i)) (h0 : 0 ≤ i) (h1 : i < len) : RD P (.indexAddr T x y) ty E L (.pointer (some ⟨b, off + i.toNat * sz, none⟩)) := fun ρ w _ _ _ _ hρ _ => by
  simp only [execOp, hρ _ _ hx, hρ _ _ hy, Instr.indexAt]
  simp [hS, asIntOf, hz, h0, h1, Addr.add]

theorem cell_of {L : Mem} {w : World} (hL : Hp L w) {i b off : Nat} {cs : Array Value} {t : TypeId} {fz : Nat × Nat} (hi : L[i]? = some (b, .cells cs t fz)) : w.cell? ⟨b, off, none⟩ = cs[off]? := by
  simp [World.cell?, hL.get hi]

def nthL : List Value → Nat → Option Value
  | [], _ => none
  | v :: _, 0 => some v
  | _ :: r, n + 1 => nthL r n

theorem nthL_eq : ∀ (l : List Value) (n : Nat), nthL l n = l[n]?
  | [], n => by simp [nthL]
  | v :: r, 0 => rfl
  | v :: r, n + 1 => by simpa [nthL] using nthL_eq r n

def cget (cs : Array Value) (off : Nat) : Option Value := nthL cs.toList off
theorem cget_eq (cs : Array Value) (off : Nat) : cget cs off = cs[off]? := by simp [cget, nthL_eq]

theorem RD.load {i b off : Nat} {cs : Array Value} {t : TypeId} {fz : Nat × Nat} (ha : ∀ w, (isAgg T).run P w = .ok false w) (hx : evalE E x = some (.pointer (some ⟨b, off, none⟩))) (hi : L[i]? = some (b, .cells cs t fz)) (hv : cget cs off = some v) :
    RD P (.load T x) ty E L v := fun ρ w _ _ _ _ hρ hL => by
  rw [cget_eq] at hv
  have hc := (cell_of hL (off := off) hi).trans hv
  simp [execOp, hρ _ _ hx, Instr.loadAt, Instr.sureAddr, loadVar, ha, hc]

/-- A cell of the world in which the call began, which nobody has turned. -/
theorem run_loadCells_agg {P : Program} {w : World} {b off n : Nat} {cs : Array Value} (hc : ∀ j, j < n → w.cell? ⟨b, off + j, none⟩ = cs[off + j]?) (hn : off + n ≤ cs.size) : (loadCells ⟨b, off, none⟩ n).run P w = .ok (cs.extract off (off + n)) w := by
  have h := run_loadCells_list (P := P) (w := w) ⟨b, off, none⟩ (cs.extract off (off + n)).toList (fun j v hj => by
    obtain ⟨hlt, _⟩ := List.getElem?_eq_some_iff.1 hj
    simp at hlt
    have hjn : j < n := by omega
    have hadd : (⟨b, off, none⟩ : Addr).add j = ⟨b, off + j, none⟩ := by
      unfold Addr.add; split
      · rename_i h; simp
      · rfl
    rw [hadd, hc j hjn, ← hj]
    simp [show off + j < cs.size by omega, hjn])
  have hl : (cs.extract off (off + n)).toList.length = n := by simp; omega
  rw [hl] at h
  rwa [Array.toArray_toList] at h

theorem RD.loadA {i b off n : Nat} {cs : Array Value} {t : TypeId} {fz : Nat × Nat} (ha : ∀ w, (isAgg T).run P w = .ok true w) (hs : ∀ w, (sizeOf T).run P w = .ok n w) (hx : evalE E x = some (.pointer (some ⟨b, off, none⟩)))
    (hi : L[i]? = some (b, .cells cs t fz)) (hn : off + n ≤ cs.size) (hv : Value.agg (cs.extract off (off + n)) = v) : RD P (.load T x) ty E L v := fun ρ w _ _ _ _ hρ hL => by
  have hc := run_loadCells_agg (P := P) (n := n) (fun j _ => cell_of hL (off := off + j) hi) hn
  subst hv
  simp [execOp, hρ _ _ hx, Instr.loadAt, Instr.sureAddr, loadVar, ha, hs, hc]

theorem RD.makeFunc {fn : Fn} {fs cs : Array Operand} {a c : Array Value} (hf : fs.toList.mapM (evalE E) = some a.toList) (hc : cs.toList.mapM (evalE E) = some c.toList) : RD P (.makeFunc fn fs cs) ty E L (.func fn a c) := by
  have key : ∀ (ρ : Operand → Value), (∀ x u, evalE E x = some u → ρ x = u) → ∀ (l : List Operand) (vs : List Value), l.mapM (evalE E) = some vs → l.map ρ = vs := by
    intro ρ hρ l
    induction l with
    | nil => intro vs h; simp at h; simp [h]
    | cons x l ih =>
      intro vs h
      simp only [List.mapM_cons, Option.bind_eq_bind, Option.bind_eq_some_iff, Option.pure_def, Option.some.injEq] at h
      obtain ⟨v, hv, us, hus, rfl⟩ := h
      simp [hρ _ _ hv, ih us hus]
  intro ρ w _ _ _ _ hρ _
  have e1 : fs.map ρ = a := by apply Array.toList_inj.1; simpa using key ρ hρ _ _ hf
  have e2 : cs.map ρ = c := by apply Array.toList_inj.1; simpa using key ρ hρ _ _ hc
  simp [execOp, Instr.makeFunc, e1, e2]
end rd

/-- The values of a call's arguments. -/
def evalL (E : Env) : List Operand → Option (List Value)
  | [] => some []
  | x :: r => match evalE E x, evalL E r with
    | some v, some vs => some (v :: vs)
    | _, _ => none

theorem evalL_map {E : Env} {ρ : Operand → Value} (hρ : ∀ x u, evalE E x = some u → ρ x = u) : ∀ (l : List Operand) (vs : List Value), evalL E l = some vs → l.map ρ = vs
  | [], vs, h => by simp [evalL] at h; simp [h]
  | x :: l, vs, h => by
    simp only [evalL] at h
    cases h1 : evalE E x with
    | none => simp [h1] at h
    | some v =>
      cases h2 : evalL E l with
      | none => simp [h1, h2] at h
      | some us =>
        simp [h1, h2] at h; subst h
        simp [hρ _ _ h1, evalL_map hρ l us h2]

section call
variable {P : Program} {rd : Option Nat} {ops : Array Oper} {p : Pst} {q : List Nat} {C : Ctx} {L M : Mem} {k : Nat} {tr : Tr} {E : Env}
variable {d : Nat} {ty : TypeId} {ps : String} {af : Array Edge} {g : Option (Nat × Bool)}

theorem run_call_go {f : Operand} {xs : Array Operand} {ats : Array TypeId} {fid : FuncId} {fs cap : Array Value} {vs : List Value} {ρ : Operand → Value} {dst : Option Tmp} (hen : ∀ args w, (callFunc fid args).run P w = .ok (.enter fid args) w)
    (hρ : ∀ x u, evalE E x = some u → ρ x = u) (hf : evalE E f = some (.func (.func fid) fs cap)) (ha : evalL E xs.toList = some vs) (w : World) :
    (execOp ρ ⟨dst, .call ⟨.value f, xs, ats⟩, ty, ps, af, g⟩).run P w = .ok (.enter fid ((fs.toList ++ vs ++ cap.toList).toArray)) w := by
  have e : xs.map ρ = vs.toArray := by apply Array.toList_inj.1; simpa using evalL_map hρ _ _ ha
  simp only [execOp, resolve, hρ _ _ hf, e, Deferred.ofValue]
  simp only [Sem.run_bind, Sem.run_pure, Result.andThen_ok, invoke, hen]
  congr 2
  apply Array.toList_inj.1
  simp

/-- A call that turns nothing that is known. -/
theorem TE_call {f : Operand} {xs : Array Operand} {ats : Array TypeId} {fid : FuncId} {fs cap : Array Value} {vs : List Value} {post : Value → Mem → Prop} (ho : ops[k]? = some ⟨some d, .call ⟨.value f, xs, ats⟩, ty, ps, af, g⟩) (hl : ld ops q k = true) (hg : GOK ops E g)
    (hen : ∀ args w, (callFunc fid args).run P w = .ok (.enter fid args) w) (hf : evalE E f = some (.func (.func fid) fs cap)) (ha : evalL E xs.toList = some vs) (hd : Nat.blt d C.N = true)
    (hc : ∀ w, St C.w0 C.X (M ++ L) w → Calls P fid (fs.toList ++ vs ++ cap.toList).toArray w (Ret w [] post))
    (h : ∀ v H1, post v H1 → (∀ e ∈ H1, C.w0.heap.size ≤ e.1) → TE P rd ops p q C L tr ((d, v) :: E) (H1 ++ M)) : TE P rd ops p q C L (.op k tr) E M :=
  TE_loud ho hl hg rfl fun a w hr hs => by
    rw [run_call_go hen (fun x u hu => hr.eval hu) hf ha w]
    refine ⟨fun h => by simp [Fw] at h, ?_⟩
    have hcc : CallsIn (Fw rd) 0 P fid (fs.toList ++ vs ++ cap.toList).toArray w (Ret w [] post) := (callsIn_wide (n := 0)).2 (hc w hs)
    refine CallsIn.mono hcc ?_
    rintro e w' ⟨v, H1, rfl, hp, hfr, hH1, hnew⟩
    have hnew' : ∀ e ∈ H1, w.heap.size ≤ e.1 := fun e he => (hnew e he).resolve_left (by simp)
    have hold : Hp (M ++ L) w' := ⟨fun e he => (hfr.block e.1 (hs.hp.lt he) (by simp)).trans (hs.hp.at_ e he), hs.hp.ne⟩
    have hall : Hp (H1 ++ (M ++ L)) w' := ⟨fun e he => by
      rcases List.mem_append.1 he with h' | h'
      · exact hH1.at_ e h'
      · exact hold.at_ e h', List.pairwise_append.2 ⟨hH1.ne, hold.ne, fun x hx y hy => by
          have h1 := hnew' x hx
          have h2 := hs.hp.lt hy
          omega⟩⟩
    refine ⟨hold.right, h v H1 hp (fun e he => Nat.le_trans hs.fr.size (hnew' e he)) _ _ (hr.put (by simpa using hd) v) ⟨hs.fr.trans hfr (by simp), ?_⟩⟩
    simpa using hall

end call

/-! ### The end of a function -/
section done
variable {P : Program} {fn : Func} {C : Ctx} {E : Env} {H : Mem} {post : Value → Mem → Prop} {X : List Nat}

theorem pn_done {N : Nat} {w : World} {l : List ResultVar} {vs : List Value} {H1 : Mem} (hl : fn.results = l.toArray) (hv : resE E l = some vs) (hp : post (tupV vs) H1) (hH : H1.Sublist H) (hn : ∀ e ∈ H1, e.1 ∈ X ∨ w.heap.size ≤ e.1) :
    PN ⟨N, [], w, X⟩ (retP P fn (Ret w X post)) E H := fun a w' hr hs => by
  unfold retP
  rw [hr.defers]
  refine ⟨_, results_run hr w' hl hv, _, H1, rfl, hp, hs.fr, hs.hp.sub hH, hn⟩
end done

section more
variable {P : Program} {rd : Option Nat} {ops : Array Oper} {p : Pst} {q : List Nat} {C : Ctx} {L M : Mem} {k : Nat} {tr : Tr} {E : Env}
variable {d : Nat} {ty : TypeId} {ps : String} {af : Array Edge} {g : Option (Nat × Bool)}

theorem TE_isT (h : TE P rd ops p q C L tr ((d, .bool true) :: E) M) : TE P rd ops p q C L tr ((d, .bool true) :: E) M := h
theorem TE_isF (h : TE P rd ops p q C L tr ((d, .bool false) :: E) M) : TE P rd ops p q C L tr ((d, .bool false) :: E) M := h
theorem TE_dec {Pr : Prop} [Decidable Pr] (ht : Pr → TE P rd ops p q C L tr ((d, .bool true) :: E) M) (hf : ¬ Pr → TE P rd ops p q C L tr ((d, .bool false) :: E) M) : TE P rd ops p q C L tr ((d, .bool (decide Pr)) :: E) M :=
  TE_bool (fun h => ht (of_decide_eq_true h)) (fun h => hf (of_decide_eq_false h))
theorem TE_ndec {Pr : Prop} [Decidable Pr] (ht : ¬ Pr → TE P rd ops p q C L tr ((d, .bool true) :: E) M) (hf : Pr → TE P rd ops p q C L tr ((d, .bool false) :: E) M) : TE P rd ops p q C L tr ((d, .bool (!decide Pr)) :: E) M :=
  TE_bool (fun h => ht (by simpa using h)) (fun h => hf (by simpa using h))

theorem pn_condT {H : Mem} {c : Operand} {x y : Code} (hc : evalE E c = some (.bool true)) (h : PN C (WP P rd x p) E H) : PN C (WP P rd (.cond c x y) p) E H := pn_cond hc (fun _ => h) (fun h => by cases h)
theorem pn_condF {H : Mem} {c : Operand} {x y : Code} (hc : evalE E c = some (.bool false)) (h : PN C (WP P rd y p) E H) : PN C (WP P rd (.cond c x y) p) E H := pn_cond hc (fun h => by cases h) (fun _ => h)
theorem pn_condD {H : Mem} {c : Operand} {x y : Code} {Pr : Prop} [Decidable Pr] (hc : evalE E c = some (.bool (decide Pr))) (ht : Pr → PN C (WP P rd x p) E H) (hf : ¬ Pr → PN C (WP P rd y p) E H) : PN C (WP P rd (.cond c x y) p) E H :=
  pn_cond hc (fun h => ht (of_decide_eq_true h)) (fun h => hf (of_decide_eq_false h))
theorem pn_condN {H : Mem} {c : Operand} {x y : Code} {Pr : Prop} [Decidable Pr] (hc : evalE E c = some (.bool (!decide Pr))) (ht : ¬ Pr → PN C (WP P rd x p) E H) (hf : Pr → PN C (WP P rd y p) E H) : PN C (WP P rd (.cond c x y) p) E H :=
  pn_cond hc (fun h => ht (by simpa using h)) (fun h => hf (by simpa using h))

/-- Cells written one behind the other. -/
def putL (cs : Array Value) (off : Nat) : List Value → Array Value
  | [] => cs
  | v :: r => putL (cs.setIfInBounds off v) (off + 1) r

theorem size_putL : ∀ (vs : List Value) (cs : Array Value) (off : Nat), (putL cs off vs).size = cs.size
  | [], _, _ => rfl
  | v :: r, cs, off => by simp [putL, size_putL r]

theorem run_storeCells_at {b : Nat} {T : TypeId} : ∀ (vs : List Value) (cs : Array Value) (off i : Nat) (w : World), w.heap[b]? = some (.cells cs T (0, 0)) → off + i + vs.length ≤ cs.size → (∀ v ∈ vs, v.oneCell' = true) →
    ∃ w', (storeCells ⟨b, off, none⟩ vs i).run P w = .ok () w' ∧ w'.heap[b]? = some (.cells (putL cs (off + i) vs) T (0, 0)) ∧ (∀ k, k ≠ b → w'.heap[k]? = w.heap[k]?) ∧ w'.os = w.os ∧ w'.tape = w.tape ∧ w'.output = w.output ∧ w'.heap.size = w.heap.size
  | [], cs, off, i, w, hb, _, _ => ⟨w, rfl, hb, fun _ _ => rfl, rfl, rfl, rfl, rfl⟩
  | v :: r, cs, off, i, w, hb, hlen, h1 => by
    simp only [List.length_cons] at hlen
    have hadd : (⟨b, off, none⟩ : Addr).add i = ⟨b, off + i, none⟩ := by
      unfold Addr.add; split
      · rename_i h; simp
      · rfl
    have hcell : w.cell? ⟨b, off + i, none⟩ = some cs[off + i] := by
      simp [World.cell?, hb, show off + i < cs.size by omega]
    have hfz : w.frozen? ⟨b, off + i, none⟩ = false := frozen_of_row w b _ cs T hb
    have hst := heap_setCell_same w b (off + i) cs T v hb
    obtain ⟨w', hr, hb', hk, e1, e2, e3, e4⟩ := run_storeCells_at r (cs.setIfInBounds (off + i) v) off (i + 1) (w.setCell ⟨b, off + i, none⟩ v) hst (by simp; omega) (fun x hx => h1 x (by simp [hx]))
    refine ⟨w', ?_, ?_, fun k hk' => (hk k hk').trans (heap_setCell_other w _ k v hk'), e1, e2, e3, by rw [e4]; simp⟩
    · have hone := h1 v (by simp)
      simp only [storeCells, hadd]
      simp only [Sem.run_bind, run_store P w _ v .plain hone, hcell, hfz]
      simpa using hr
    · show w'.heap[b]? = some (.cells (putL (cs.setIfInBounds (off + i) v) (off + i + 1) r) T (0, 0))
      rw [show off + i + 1 = off + (i + 1) from by omega]
      exact hb'

theorem St.upd {w0 w w' : World} {X : List Nat} {M L : Mem} {i b : Nat} {o o' : Obj} (h : St w0 X (M ++ L) w) (hi : M[i]? = some (b, o)) (hb : w'.heap[b]? = some o') (hk : ∀ k, k ≠ b → w'.heap[k]? = w.heap[k]?)
    (e1 : w'.os = w.os) (e2 : w'.tape = w.tape) (e3 : w'.output = w.output) (e4 : w'.heap.size = w.heap.size) (hw : w0.heap.size ≤ b ∨ b ∈ X) : St w0 X (M.set i (b, o') ++ L) w' := by
  obtain ⟨hlt, hget⟩ := List.getElem?_eq_some_iff.1 hi
  have hkeys : (M.set i (b, o') ++ L).map (·.1) = (M ++ L).map (·.1) := by
    simp only [List.map_append, List.map_set]
    congr 1
    apply List.ext_getElem?
    intro j
    by_cases hj : i = j
    · subst hj; simp [hlt, hget]
    · simp [hj]
  refine ⟨⟨e1.trans h.fr.os, e2.trans h.fr.tape, e3.trans h.fr.output, by rw [e4]; exact h.fr.size, fun k hk' hX => ?_⟩, ?_, ?_⟩
  · by_cases hkb : k = b
    · subst hkb
      rcases hw with hw | hw
      · omega
      · exact absurd hw hX
    · exact (hk k hkb).trans (h.fr.block k hk' hX)
  · intro e he
    by_cases heb : e.1 = b
    · -- it is the one that was written
      have : e = (b, o') := by
        obtain ⟨j, hj⟩ := List.mem_iff_getElem?.1 he
        have hjk : ((M ++ L).map (·.1))[j]? = some b := by rw [← hkeys, List.getElem?_map, hj]; simp [heb]
        simp only [List.getElem?_map, Option.map_eq_some_iff] at hjk
        obtain ⟨f, hf, hfb⟩ := hjk
        have hij := h.hp.key_inj (i := i) (j := j) (e := (b, o)) (f := f) (by rw [List.getElem?_append_left hlt]; exact hi) hf hfb.symm
        subst hij
        rw [List.getElem?_append_left (by simpa using hlt)] at hj
        simp [hlt] at hj
        exact hj.symm
      subst this
      exact hb
    · have hmem : e ∈ M ++ L := by
        rcases List.mem_append.1 he with h' | h'
        · rcases List.mem_or_eq_of_mem_set h' with h'' | h''
          · simp [h'']
          · exact absurd (by rw [h'']) heb
        · simp [h']
      exact (hk e.1 heb).trans (h.hp.at_ e hmem)
  · have h1 : ((M ++ L).map (fun e : Nat × Obj => e.1)).Pairwise (· ≠ ·) := List.pairwise_map.2 h.hp.ne
    rw [← hkeys] at h1
    exact List.pairwise_map.1 h1

theorem storeV_size {P : Program} {T : TypeId} {w : World} {n : Nat} {v : Value} (hs : ∀ w, (sizeOf T).run P w = .ok n w) (hv : v.cells.size = n) (a : Addr) : (storeVar T a v).run P w = (storeCells a v.cells.toList).run P w := by
  simp [storeVar, hs, hv]

/-- A store into a block that is known. -/
theorem TE_put {T : TypeId} {x y : Operand} {i b off n : Nat} {cs : Array Value} {t : TypeId} {v : Value} (ho : ops[k]? = some ⟨none, .store T x y, ty, ps, af, g⟩) (hs : ∀ w, (sizeOf T).run P w = .ok n w) (hg : GOK ops E g)
    (hx : evalE E x = some (.pointer (some ⟨b, off, none⟩))) (hy : evalE E y = some v) (hn : Nat.beq v.cells.size n = true) (h1 : (v.cells.toList.all fun u => u.oneCell') = true) (hi : M[i]? = some (b, .cells cs t (0, 0))) (hlen : Nat.ble (off + n) cs.size = true) (hw : C.w0.heap.size ≤ b ∨ b ∈ C.X)
    (h : TE P rd ops p q C L tr E (M.set i (b, .cells (putL cs off v.cells.toList) t (0, 0)))) : TE P rd ops p q C L (.op k tr) E M :=
  TE_loud ho (by simp [ld, ho]) hg rfl fun a w hr hs' => by
    have hn : v.cells.size = n := Nat.eq_of_beq_eq_true hn
    have hlen : off + n ≤ cs.size := Nat.le_of_ble_eq_true hlen
    have h1 : ∀ u ∈ v.cells.toList, u.oneCell' = true := List.all_eq_true.1 h1
    have hb := hs'.hp.get (i := i) (b := b) (o := .cells cs t (0, 0)) (by
      obtain ⟨hlt, _⟩ := List.getElem?_eq_some_iff.1 hi
      rw [List.getElem?_append_left hlt]; exact hi)
    obtain ⟨w', hrun, hb', hk, e1, e2, e3, e4⟩ := run_storeCells_at (P := P) v.cells.toList cs off 0 w hb (by simp; omega) h1
    have hrun' : (execOp a.eval ⟨none, .store T x y, ty, ps, af, g⟩).run P w = .ok .skip w' := by
      simp only [execOp, hr.eval hx, hr.eval hy, Instr.storeAt, Instr.sureAddr]
      simp [storeV_size hs hn, hrun]
    rw [hrun']
    have hst := hs'.upd hi hb' hk e1 e2 e3 e4 hw
    exact ⟨hst.hp.right, h _ _ hr hst⟩

theorem TE_store {T : TypeId} {x y : Operand} {i b off : Nat} {cs : Array Value} {t : TypeId} {v : Value} (ho : ops[k]? = some ⟨none, .store T x y, ty, ps, af, g⟩) (hs : ∀ w, (sizeOf T).run P w = .ok 1 w) (hg : GOK ops E g)
    (hx : evalE E x = some (.pointer (some ⟨b, off, none⟩))) (hy : evalE E y = some v) (h1 : v.cells.toList = [v]) (h1' : v.oneCell' = true) (hi : M[i]? = some (b, .cells cs t (0, 0))) (hlen : Nat.blt off cs.size = true) (hw : C.w0.heap.size ≤ b ∨ b ∈ C.X)
    (h : TE P rd ops p q C L tr E (M.set i (b, .cells (cs.setIfInBounds off v) t (0, 0)))) : TE P rd ops p q C L (.op k tr) E M :=
  TE_put (i := i) ho hs hg hx hy (by rw [← Array.length_toList, h1]; rfl) (by rw [h1]; simpa using h1') hi (Nat.ble_eq_true_of_le (Nat.succ_le_of_lt (by simpa using hlen))) hw (by rw [h1]; exact h)
end more

end Go.Mv
