import Derived.Test.YthagkkmbbncclaaDoorMvSrc
namespace Go.Mv
open Go

/-! ### Deferred calls -/
section te
variable {P : Program} {ops : Array Oper} {p : Pst} {q : List Nat} {C : Ctx} {L M : Mem} {k : Nat} {tr : Tr} {E : Env}
variable {d : Nat} {ty : TypeId} {ps : String} {af : Array Edge} {g : Option (Nat × Bool)}

/-- defer f(..), in no round. -/
theorem TE_defer {f : Operand} {xs : Array Operand} {ats : Array TypeId} {fn : Fn} {fs cap : Array Value} {vs : List Value} (ho : ops[k]? = some ⟨none, .defer ⟨.value f, xs, ats⟩, ty, ps, af, g⟩) (hg : GOK ops E g)
    (hf : evalE E f = some (.func fn fs cap)) (ha : evalL E xs.toList = some vs)
    (h : TE P none ops p q ⟨C.N, { target := .fn fn cap, args := fs ++ vs.toArray } :: C.ds, C.w0, C.X⟩ L tr E M) : TE P none ops p q C L (.op k tr) E M := TE_intro fun a w hr hs => by
  have hl : ld ops q k = true := by simp [ld, ho]
  rw [TT_op, TS_loud ho hl]
  unfold wpOpIn
  simp only [ho]
  have hw : Region.wanted (⟨none, .defer ⟨.value f, xs, ats⟩, ty, ps, af, g⟩ : Oper) (yielded ops a.tmps) = true := GOK.wanted (o := ⟨none, .defer ⟨.value f, xs, ats⟩, ty, ps, af, g⟩) hg hr
  rw [if_pos hw]
  refine ⟨fun _ _ => trivial, ?_⟩
  have e : xs.map a.eval = vs.toArray := by apply Array.toList_inj.1; simpa using evalL_map (fun x u hu => hr.eval hu) _ _ ha
  have hrun : (Oper.semAt (Fw none).round a.eval ⟨none, .defer ⟨.value f, xs, ats⟩, ty, ps, af, g⟩).run P w = .ok (.defer { target := .fn fn cap, args := fs ++ vs.toArray }) w := by
    rw [show (Fw none).round = none from rfl, Oper.semAt_none]
    simp only [execOp, resolve, hr.eval hf, e, Deferred.ofValue]
    simp only [Sem.run_bind, Sem.run_pure, Result.andThen_ok]
  rw [hrun]
  refine ⟨hs.hp.right, ?_⟩
  exact h _ _ ⟨hr.size, by simp [hr.defers, Act.put], hr.get⟩ ⟨hs.fr, hs.hp⟩
end te

/-- A function's contract as a deferred call's. -/
def CallsDf (P : Program) (f : FuncId) (args : Array Value) (w : World) (R : Ending → World → Prop) : Prop :=
  CallsDIn (Fw none) 0 P f args .returning w fun e u' w' => u' = .returning ∧ R e w'

def retD (P : Program) (fn : Func) (R : Ending → World → Prop) : Act → World → Prop := fun a w => a.defers = [] ∧ ∃ v, (results fn a.tmps).run P w = .ok v w ∧ R (.returned v) w

def exitPD (P : Program) (fn : Func) (R : Ending → World → Prop) : Pst :=
  { n := retD P fn R, r := retD P fn R, x := fun _ _ _ => False, g := fun _ _ _ => False }

theorem fn_enterD {P : Program} {f : FuncId} {fn : Func} {c : Code} {args : List Value} {N : Nat} {w : World} {X : List Nat} {H : Mem} {post : Value → Mem → Prop} (hf : P.funcs[f]? = some fn) (hb : fn.body = some c) (hN : fn.ntmps = N) (hlen : Nat.ble args.length N = true) (hH : Hp H w)
    (h : PN ⟨N, [], w, X⟩ (WP P none c (exitPD P fn (Ret w X post))) (enum 0 args) H) : CallsDf P f args.toArray w (Ret w X post) := by
  refine callsDIn_of_wp hf hb trivial ?_ rfl
  have h0 := h { tmps := args.toArray ++ Array.replicate (fn.ntmps - args.toArray.size) undef, defers := [] } w ?_ ⟨Fr.refl w X, hH⟩
  · exact wp_of (p := exitPD P fn (Ret w X post)) (fun e a w q => by cases e <;> first | exact q | exact q.elim) h0
  · have hlen' : args.length ≤ N := by simpa using hlen
    refine ⟨by simp [hN]; omega, rfl, ?_⟩
    intro t v ht
    obtain ⟨_, h2⟩ := enum_get args 0 t v ht
    obtain ⟨hlt, h3⟩ := List.getElem?_eq_some_iff.1 h2
    simp only [Nat.sub_zero] at hlt h3
    rw [Array.getElem?_append_left (by simpa using hlt)]
    simpa using h2

section done
variable {P : Program} {fn : Func} {C : Ctx} {E : Env} {H : Mem} {post : Value → Mem → Prop} {X : List Nat}
theorem pn_doneD {N : Nat} {w : World} {l : List ResultVar} {vs : List Value} {H1 : Mem} (hl : fn.results = l.toArray) (hv : resE E l = some vs) (hp : post (tupV vs) H1) (hH : ∀ w, Hp H w → Hp H1 w) (hn : ∀ e ∈ H1, e.1 ∈ X ∨ w.heap.size ≤ e.1) :
    PN ⟨N, [], w, X⟩ (retD P fn (Ret w X post)) E H := fun a w' hr hs => ⟨hr.defers, _, results_run hr w' hl hv, _, H1, rfl, hp, hs.fr, hH _ hs.hp, hn⟩

/-- How a frame leaves: with the deferred calls ds. -/
def LV (P : Program) (fn : Func) (C : Ctx) (R : Ending → World → Prop) (E : Env) (ds : List Deferred) (H : Mem) : Prop :=
  ∀ a w, Rep C.N [] E a → St C.w0 C.X H w → LeavesInM (Fw none) 0 P fn a.tmps R ds .returning w

variable {R : Ending → World → Prop} {ds : List Deferred}
theorem lv_ret (h : LV P fn C R E C.ds H) : PN C (retP P fn R) E H := fun a w hr hs => by
  unfold retP
  rw [hr.defers]
  exact h { a with defers := [] } w ⟨hr.size, rfl, hr.get⟩ hs

theorem lv_mark {D : Nat} (A B : Mem) (hAB : H = A ++ (D, .deferred (some [])) :: B) (hD : C.w0.heap.size ≤ D) (h : LV P fn C R E ds (A ++ B)) : LV P fn C R E ({ target := .collected D, args := #[] } :: ds) H := fun a w hr hs => by
  have hpm : Hp ((D, .deferred (some [])) :: (A ++ B)) w := hs.hp.perm (by rw [hAB]; exact List.perm_middle)
  have hget : w.heap[D]? = some (.deferred (some [])) := hpm.at_ (D, _) (by simp)
  refine ⟨by simp, .inl ⟨D, _, rfl, run_takeDeferred hget, ?_⟩⟩
  exact h a _ hr ⟨hs.fr.putObj D _ (.inr hD), (hpm.putObj (o' := .deferred none)).sub (List.sublist_cons_self _ _)⟩

theorem lv_call {f : FuncId} {args cap : Array Value} {post' : Value → Mem → Prop} (A B : Mem) (hAB : ∀ w, Hp H w → Hp (A ++ B) w) (hen : ∀ args w, (callFunc f args).run P w = .ok (.enter f args) w) (hX : ∀ e ∈ B, C.w0.heap.size ≤ e.1 ∨ e.1 ∈ C.X)
    (hc : ∀ w, Hp (A ++ B) w → CallsDf P f (args ++ cap) w (Ret w (keys B) post'))
    (h : ∀ v H1, post' v H1 → (∀ e ∈ H1, C.w0.heap.size ≤ e.1 ∨ e.1 ∈ C.X) → LV P fn C R E ds (A ++ H1)) : LV P fn C R E ({ target := .fn (.func f) cap, args := args } :: ds) H := fun a w hr hs => by
  have hH := hAB w hs.hp
  refine ⟨by simp, .inr ⟨fun h => by simp [Fw] at h, .func f, cap, f, args ++ cap, rfl, ?_, fun _ _ => trivial, ?_⟩⟩
  · simp only [invoke, hen]
  · refine CallsDIn.mono (hc w hH) ?_
    rintro e u' w' ⟨rfl, v, H1, rfl, hp, hfr, hH1, hnew⟩
    have hs' : St C.w0 C.X (A ++ B) w := ⟨hs.fr, hH⟩
    obtain ⟨h1, h2⟩ := hs'.after hX hfr hH1 hnew
    exact h v H1 hp h2 a w' hr h1

theorem lv_nil {v : Value} {H1 : Mem} {w0 : World} {N : Nat} {ds0 : List Deferred} (hv : ∀ a w, Rep N [] E a → St w0 X H w → (results fn a.tmps).run P w = .ok v w) (hp : post v H1) (hH : ∀ w, Hp H w → Hp H1 w) (hn : ∀ e ∈ H1, e.1 ∈ X ∨ w0.heap.size ≤ e.1) :
    LV P fn ⟨N, ds0, w0, X⟩ (Ret w0 X post) E [] H := fun a w hr hs => ⟨v, hv a w hr hs, v, H1, rfl, hp, hs.fr, hH w hs.hp, hn⟩

/-- Results, out of slots and cells. -/
def resF (P : Program) (E : Env) (H : Mem) : List ResultVar → List Value → Prop
  | [], vs => vs = []
  | .tmp t :: r, vs => ∃ v us, vs = v :: us ∧ E.get t = some v ∧ resF P E H r us
  | .cell b T :: r, vs => ∃ v us bb off, vs = v :: us ∧ E.get b = some (.pointer (some ⟨bb, off, none⟩)) ∧ (∀ w, Hp H w → (loadVar T ⟨bb, off, none⟩).run P w = .ok v w) ∧ resF P E H r us

theorem resF_run {P : Program} {N : Nat} {ds : List Deferred} {E : Env} {H : Mem} {a : Act} (hr : Rep N ds E a) (w : World) (hw : Hp H w) : ∀ (l : List ResultVar) (vs : List Value), resF P E H l vs →
    (l.mapM (m := Sem) fun | .tmp t => pure (a.tmps.getD t undef) | .cell b t => do loadVar t (← asAddr (a.tmps.getD b undef))).run P w = .ok vs w
  | [], vs, h => by simp only [resF] at h; subst h; rfl
  | .tmp t :: r, vs, h => by
    obtain ⟨v, us, rfl, h1, h2⟩ := h
    have ih := resF_run hr w hw r us h2
    have hv' : a.tmps.getD t undef = v := by simp [Array.getD_eq_getD_getElem?, hr.get t v h1]
    rw [List.mapM_cons]
    simp only [Sem.run_bind, Sem.run_pure, Result.andThen_ok, ih, hv']
  | .cell b T :: r, vs, h => by
    obtain ⟨v, us, bb, off, rfl, h1, hl, h2⟩ := h
    have ih := resF_run hr w hw r us h2
    have hv' : a.tmps.getD b undef = .pointer (some ⟨bb, off, none⟩) := by simp [Array.getD_eq_getD_getElem?, hr.get b _ h1]
    have hb := hl w hw
    have h3 : (do loadVar T (← asAddr (a.tmps.getD b undef))).run P w = .ok v w := by rw [hv']; simpa [asAddr] using hb
    rw [List.mapM_cons, Sem.run_bind]
    show Result.andThen ((do loadVar T (← asAddr (a.tmps.getD b undef))).run P w) _ = _
    rw [h3]
    simp only [Result.andThen_ok, Sem.run_bind, ih, Sem.run_pure]

theorem load_cell {P : Program} {H : Mem} {T : TypeId} {i bb off : Nat} {cs : Array Value} {t : TypeId} {fz : Nat × Nat} {v : Value} (ha : ∀ w, (isAgg T).run P w = .ok false w) (hi : H[i]? = some (bb, .cells cs t fz)) (hv : cget cs off = some v) : ∀ w, Hp H w → (loadVar T ⟨bb, off, none⟩).run P w = .ok v w := fun w hw => by
  rw [cget_eq] at hv
  have hc := (cell_of hw (off := off) hi).trans hv
  simp [loadVar, ha, hc]
theorem load_agg {P : Program} {H : Mem} {T : TypeId} {i bb off n : Nat} {cs : Array Value} {t : TypeId} {fz : Nat × Nat} {v : Value} (ha : ∀ w, (isAgg T).run P w = .ok true w) (hz : ∀ w, (sizeOf T).run P w = .ok n w) (hi : H[i]? = some (bb, .cells cs t fz)) (hn : off + n ≤ cs.size) (hv : Value.agg (cs.extract off (off + n)) = v) : ∀ w, Hp H w → (loadVar T ⟨bb, off, none⟩).run P w = .ok v w := fun w hw => by
  have hc := run_loadCells_agg (P := P) (w := w) (b := bb) (off := off) (n := n) (cs := cs) (fun j _ => cell_of hw (off := off + j) hi) hn
  subst hv
  simp [loadVar, ha, hz, hc]

theorem resultsF_run {P : Program} {fn : Func} {N : Nat} {ds : List Deferred} {E : Env} {H : Mem} {a : Act} (hr : Rep N ds E a) (w : World) (hw : Hp H w) {l : List ResultVar} (hl : fn.results = l.toArray) {vs : List Value} (h : resF P E H l vs) :
    (results fn a.tmps).run P w = .ok (tupV vs) w := by
  have := resF_run hr w hw l vs h
  unfold results
  rw [hl, Array.mapM_eq_mapM_toList]
  simp only [Sem.run_bind, Sem.run_map]
  erw [this]
  simp only [Result.andThen_ok, Sem.run_pure]
  rcases vs with _ | ⟨v, _ | ⟨u, r⟩⟩ <;> simp [tupV]

/-- The end: no deferred calls are left; results out of slots and cells. -/
theorem lv_end {l : List ResultVar} {vs : List Value} {H1 : Mem} {w0 : World} {N : Nat} {ds0 : List Deferred} (hl : fn.results = l.toArray) (hv : resF P E H l vs) (hp : post (tupV vs) H1) (hH : ∀ w, Hp H w → Hp H1 w) (hn : ∀ e ∈ H1, e.1 ∈ X ∨ w0.heap.size ≤ e.1) :
    LV P fn ⟨N, ds0, w0, X⟩ (Ret w0 X post) E [] H :=
  lv_nil (fun _ w hr hs => resultsF_run hr w hs.hp hl hv) hp hH hn
/-- The end of a function without deferred calls. -/
theorem pn_doneF {l : List ResultVar} {vs : List Value} {H1 : Mem} {w0 : World} {N : Nat} (hl : fn.results = l.toArray) (hv : resF P E H l vs) (hp : post (tupV vs) H1) (hH : ∀ w, Hp H w → Hp H1 w) (hn : ∀ e ∈ H1, e.1 ∈ X ∨ w0.heap.size ≤ e.1) :
    PN ⟨N, [], w0, X⟩ (retP P fn (Ret w0 X post)) E H := lv_ret (lv_end hl hv hp hH hn)
end done
end Go.Mv
