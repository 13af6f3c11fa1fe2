import Derived.Test.YtjdjlcmajeikcaaMvB
import Derived.Laws.BitsAllLaws
import Derived.KernelRfl
import Derived.Lib.SplitLaws
namespace Go.Mv
open Go
/-- Bytes that can be read, at a slice that can be parted. -/
def Rdb (H : Mem) (v : Value) (ys : List UInt8) : Prop :=
  (v = .slice none 0 0 ∧ ys = []) ∨ ∃ b off cap, v = .slice (some ⟨b, off, none⟩) ys.length cap ∧ ys.length ≤ cap ∧ ∀ w, Hp H w → ∀ j u, (bcells ys)[j]? = some u → w.cell? ⟨b, off + j, none⟩ = some u

def subV (l h : Nat) : Value → Value
  | .slice (some ⟨b, off, _⟩) _ cap => .slice (some ⟨b, if cap = l then off else off + l, none⟩) (h - l) (cap - l)
  | v => v

theorem Rdb.mono {H H' : Mem} {v : Value} {ys : List UInt8} (h : Rdb H v ys) (hs : ∀ w, Hp H' w → Hp H w) : Rdb H' v ys := by
  rcases h with h | ⟨b, off, cap, h1, h2, h3⟩
  · exact .inl h
  · exact .inr ⟨b, off, cap, h1, h2, fun w hw => h3 w (hs w hw)⟩

theorem Rdb.sub {H : Mem} {v : Value} {ys : List UInt8} (h : Rdb H v ys) {l r : Nat} (h1 : l ≤ r) (h2 : r ≤ ys.length) : Rdb H (subV l r v) ((ys.take r).drop l) := by
  rcases h with ⟨rfl, rfl⟩ | ⟨b, off, cap, rfl, h3, h4⟩
  · exact .inl ⟨rfl, by simp⟩
  · refine .inr ⟨b, if cap = l then off else off + l, cap - l, ?_, ?_, ?_⟩
    · simp only [subV, List.length_drop, List.length_take, Nat.min_eq_left h2]
    · simp only [List.length_drop, List.length_take]; omega
    · intro w hw j u hj
      obtain ⟨hlt, _⟩ := List.getElem?_eq_some_iff.1 hj
      simp only [length_bcells, List.length_drop, List.length_take] at hlt
      have hne : ¬ cap = l := by omega
      rw [if_neg hne, Nat.add_assoc]
      refine h4 w hw (l + j) u ?_
      rw [← hj, bcells_get, bcells_get, List.getElem?_drop, List.getElem?_take_of_lt (by omega)]

theorem Rdb.bytes {H : Mem} {v : Value} {ys : List UInt8} (h : Rdb H v ys) : BytesIn H v ys := by
  rcases h with ⟨rfl, rfl⟩ | ⟨b, off, cap, rfl, h3, h4⟩
  · exact BytesIn.nil
  · refine ⟨_, cap, rfl, fun _ => ⟨_, rfl, fun w hw j u hj => ?_⟩⟩
    have hadd : (⟨b, off, none⟩ : Addr).add j = ⟨b, off + j, none⟩ := by
      unfold Addr.add; split
      · rename_i h; simp
      · rfl
    rw [hadd]; exact h4 w hw j u hj

theorem Rdb.cons {H : Mem} {v : Value} {c : UInt8} {r : List UInt8} (h : Rdb H v (c :: r)) : ∃ b off cap, v = .slice (some ⟨b, off, none⟩) (r.length + 1) cap ∧ r.length + 1 ≤ cap ∧ ∀ w, Hp H w → w.cell? ⟨b, off, none⟩ = some (bcell c) := by
  rcases h with ⟨_, h⟩ | ⟨b, off, cap, rfl, h3, h4⟩
  · cases h
  · exact ⟨b, off, cap, rfl, h3, fun w hw => h4 w hw 0 _ rfl⟩

theorem Rdb.shape {H : Mem} {v : Value} {ys : List UInt8} (h : Rdb H v ys) : ∃ a c, v = .slice a ys.length c := by
  rcases h with ⟨rfl, rfl⟩ | ⟨b, off, cap, rfl, h3, h4⟩
  · exact ⟨_, _, rfl⟩
  · exact ⟨_, _, rfl⟩

theorem Rdb.at {H : Mem} {v : Value} {ys : List UInt8} (h : Rdb H v ys) {i : Nat} {c : UInt8} (hi : ys[i]? = some c) : ∃ b off cap, v = .slice (some ⟨b, off, none⟩) ys.length cap ∧ ys.length ≤ cap ∧ ∀ w, Hp H w → w.cell? ⟨b, off + i, none⟩ = some (bcell c) := by
  rcases h with ⟨_, rfl⟩ | ⟨b, off, cap, rfl, h3, h4⟩
  · simp at hi
  · exact ⟨b, off, cap, rfl, h3, fun w hw => h4 w hw i _ (by rw [bcells_get, hi]; rfl)⟩

section rd
variable {P : Program} {ty : TypeId} {E : Env} {L : Mem} {v u : Value} {x y z : Operand} {T U : TypeId}
theorem RD.lenR {H : Mem} {ys : List UInt8} {e : TypeId} (hT : ∀ w, (underlying T).run P w = .ok (.slice e) w) (hx : evalE E x = some v) (hb : Rdb H v ys) : RD P (.call ⟨.builtin .len, #[x], #[T]⟩) ty E L (.int .i64 ys.length) := by
  obtain ⟨a, c, rfl⟩ := hb.shape
  exact RD.len_slice hT hx

/-- A cell that is known to be there. -/
theorem RD.loadC {b off : Nat} (ha : ∀ w, (isAgg T).run P w = .ok false w) (hx : evalE E x = some (.pointer (some ⟨b, off, none⟩))) (hc : ∀ w, Hp L w → w.cell? ⟨b, off, none⟩ = some v) : RD P (.load T x) ty E L v := fun ρ w _ _ _ _ hρ hL => by
  simp [execOp, hρ _ _ hx, Instr.loadAt, Instr.sureAddr, loadVar, ha, hc w hL]

end rd
end Go.Mv
namespace Go.Mv
open Go
section te
variable {P : Program} {ops : Array Oper} {p : Pst} {q : List Nat} {C : Ctx} {L M : Mem} {k : Nat} {tr : Tr} {E : Env}
variable {d : Nat} {ty : TypeId} {ps : String} {af : Array Edge} {g : Option (Nat × Bool)}
end te
section done
variable {P : Program} {fn : Func} {C : Ctx} {E : Env} {H : Mem} {post : Value → Mem → Prop} {X : List Nat}
/-- How a frame leaves: with the deferred calls ds. -/
def LV (P : Program) (fn : Func) (C : Ctx) (R : Ending → World → Prop) (E : Env) (ds : List Deferred) (H : Mem) : Prop :=
  ∀ a w, Rep C.N [] E a → St C.w0 C.X H w → LeavesInM (Fw none) 0 P fn a.tmps R ds .returning w

variable {R : Ending → World → Prop} {ds : List Deferred}
theorem lv_ret (h : LV P fn C R E C.ds H) : PN C (retP P fn R) E H := fun a w hr hs => by
  unfold retP
  rw [hr.defers]
  exact h { a with defers := [] } w ⟨hr.size, rfl, hr.get⟩ hs

theorem lv_nil {v : Value} {H1 : Mem} {w0 : World} {N : Nat} {ds0 : List Deferred} (hv : ∀ a w, Rep N [] E a → St w0 X H w → (results fn a.tmps).run P w = .ok v w) (hp : post v H1) (hH : ∀ w, Hp H w → Hp H1 w) (hn : ∀ e ∈ H1, e.1 ∈ X ∨ w0.heap.size ≤ e.1) :
    LV P fn ⟨N, ds0, w0, X⟩ (Ret w0 X post) E [] H := fun a w hr hs => ⟨v, hv a w hr hs, v, H1, rfl, hp, hs.fr, hH w hs.hp, hn⟩

/-- Results, out of slots and cells. -/
def resF (P : Program) (E : Env) (H : Mem) : List ResultVar → List Value → Prop
  | [], vs => vs = []
  | .tmp t :: r, vs => ∃ v us, vs = v :: us ∧ E.get t = some v ∧ resF P E H r us
  | .cell b T :: r, vs => ∃ v us bb off, vs = v :: us ∧ E.get b = some (.pointer (some ⟨bb, off, none⟩)) ∧ (∀ w, Hp H w → (loadVar T ⟨bb, off, none⟩).run P w = .ok v w) ∧ resF P E H r us

theorem resF_run {P : Program} {N : Nat} {ds : List Deferred} {E : Env} {H : Mem} {a : Act} (hr : Rep N ds E a) (w : World) (hw : Hp H w) : ∀ (l : List ResultVar) (vs : List Value), resF P E H l vs →
    (l.mapM (m := Sem) fun | .tmp t => pure (a.tmps.getD t undef) | .cell b t => do loadVar t (← asAddr (a.tmps.getD b undef))).run P w = .ok vs w
  | [], vs, h => by simp only [resF] at h; subst h; rfl
  | .tmp t :: r, vs, h => by
    obtain ⟨v, us, rfl, h1, h2⟩ := h
    have ih := resF_run hr w hw r us h2
    have hv' : a.tmps.getD t undef = v := by simp [Array.getD_eq_getD_getElem?, hr.get t v h1]
    rw [List.mapM_cons]
    simp only [Sem.run_bind, Sem.run_pure, Result.andThen_ok, ih, hv']
  | .cell b T :: r, vs, h => by
    obtain ⟨v, us, bb, off, rfl, h1, hl, h2⟩ := h
    have ih := resF_run hr w hw r us h2
    have hv' : a.tmps.getD b undef = .pointer (some ⟨bb, off, none⟩) := by simp [Array.getD_eq_getD_getElem?, hr.get b _ h1]
    have hb := hl w hw
    have h3 : (do loadVar T (← asAddr (a.tmps.getD b undef))).run P w = .ok v w := by rw [hv']; simpa [asAddr] using hb
    rw [List.mapM_cons, Sem.run_bind]
    show Result.andThen ((do loadVar T (← asAddr (a.tmps.getD b undef))).run P w) _ = _
    rw [h3]
    simp only [Result.andThen_ok, Sem.run_bind, ih, Sem.run_pure]

theorem load_agg {P : Program} {H : Mem} {T : TypeId} {i bb off n : Nat} {cs : Array Value} {t : TypeId} {fz : Nat × Nat} {v : Value} (ha : ∀ w, (isAgg T).run P w = .ok true w) (hz : ∀ w, (sizeOf T).run P w = .ok n w) (hi : H[i]? = some (bb, .cells cs t fz)) (hn : off + n ≤ cs.size) (hv : Value.agg (cs.extract off (off + n)) = v) : ∀ w, Hp H w → (loadVar T ⟨bb, off, none⟩).run P w = .ok v w := fun w hw => by
  have hc := run_loadCells_agg (P := P) (w := w) (b := bb) (off := off) (n := n) (cs := cs) (fun j _ => cell_of hw (off := off + j) hi) hn
  subst hv
  simp [loadVar, ha, hz, hc]

theorem resultsF_run {P : Program} {fn : Func} {N : Nat} {ds : List Deferred} {E : Env} {H : Mem} {a : Act} (hr : Rep N ds E a) (w : World) (hw : Hp H w) {l : List ResultVar} (hl : fn.results = l.toArray) {vs : List Value} (h : resF P E H l vs) :
    (results fn a.tmps).run P w = .ok (tupV vs) w := by
  have := resF_run hr w hw l vs h
  unfold results
  rw [hl, Array.mapM_eq_mapM_toList]
  simp only [Sem.run_bind, Sem.run_map]
  erw [this]
  simp only [Result.andThen_ok, Sem.run_pure]
  rcases vs with _ | ⟨v, _ | ⟨u, r⟩⟩ <;> simp [tupV]

/-- The end: no deferred calls are left; results out of slots and cells. -/
theorem lv_end {l : List ResultVar} {vs : List Value} {H1 : Mem} {w0 : World} {N : Nat} {ds0 : List Deferred} (hl : fn.results = l.toArray) (hv : resF P E H l vs) (hp : post (tupV vs) H1) (hH : ∀ w, Hp H w → Hp H1 w) (hn : ∀ e ∈ H1, e.1 ∈ X ∨ w0.heap.size ≤ e.1) :
    LV P fn ⟨N, ds0, w0, X⟩ (Ret w0 X post) E [] H :=
  lv_nil (fun _ w hr hs => resultsF_run hr w hs.hp hl hv) hp hH hn
/-- The end of a function without deferred calls. -/
theorem pn_doneF {l : List ResultVar} {vs : List Value} {H1 : Mem} {w0 : World} {N : Nat} (hl : fn.results = l.toArray) (hv : resF P E H l vs) (hp : post (tupV vs) H1) (hH : ∀ w, Hp H w → Hp H1 w) (hn : ∀ e ∈ H1, e.1 ∈ X ∨ w0.heap.size ≤ e.1) :
    PN ⟨N, [], w0, X⟩ (retP P fn (Ret w0 X post)) E H := lv_ret (lv_end hl hv hp hH hn)
end done
end Go.Mv
namespace Go.Mv
open Go
theorem get_putL : ∀ (vs : List Value) (cs : Array Value) (off i : Nat), off + vs.length ≤ cs.size → (putL cs off vs)[i]? = if off ≤ i ∧ i < off + vs.length then vs[i - off]? else cs[i]?
  | [], cs, off, i, _ => by
    rw [if_neg (by simp only [List.length_nil]; omega)]; rfl
  | v :: r, cs, off, i, h => by
    simp only [List.length_cons] at h
    rw [putL, get_putL r _ (off + 1) i (by rw [Array.size_setIfInBounds]; omega)]
    by_cases h1 : off + 1 ≤ i ∧ i < off + 1 + r.length
    · rw [if_pos h1, if_pos (by simp only [List.length_cons]; omega), show i - off = (i - (off + 1)) + 1 from by omega, List.getElem?_cons_succ]
    · rw [if_neg h1]
      by_cases h2 : off = i
      · subst h2
        rw [Array.getElem?_setIfInBounds_self_of_lt (by omega), if_pos (by simp only [List.length_cons]; omega), Nat.sub_self]; rfl
      · rw [Array.getElem?_setIfInBounds_ne h2, if_neg (by simp only [List.length_cons]; omega)]
theorem putL_whole {cs : Array Value} {vs : List Value} (h : vs.length = cs.size) : putL cs 0 vs = vs.toArray := by
  apply Array.ext_getElem?
  intro i
  rw [get_putL vs cs 0 i (by omega)]
  by_cases hi : i < vs.length
  · rw [if_pos (by omega)]; simp
  · rw [if_neg (by omega), Array.getElem?_eq_none (by omega), Array.getElem?_eq_none (by simp; omega)]
section rd
variable {P : Program} {ty : TypeId} {E : Env} {L : Mem} {x y : Operand} {T U : TypeId}
end rd
theorem pn_perm {C : Ctx} {K : Act → World → Prop} {E : Env} {H : Mem} (H' : Mem) (hp : ∀ w, Hp H w → Hp H' w) (h : PN C K E H') : PN C K E H := fun a w hr hs => h a w hr ⟨hs.fr, hp w hs.hp⟩

section te
variable {P : Program} {rd : Option Nat} {ops : Array Oper} {p : Pst} {q : List Nat} {C : Ctx} {L M : Mem} {k : Nat} {tr : Tr} {E : Env}
variable {d : Nat} {ty : TypeId} {ps : String} {af : Array Edge} {g : Option (Nat × Bool)}
end te
end Go.Mv
namespace Go.Mv
open Go
section te
variable {P : Program} {rd : Option Nat} {ops : Array Oper} {p : Pst} {q : List Nat} {C : Ctx} {L M : Mem} {k : Nat} {tr : Tr} {E : Env}
variable {d : Nat} {ty : TypeId} {ps : String} {af : Array Edge} {g : Option (Nat × Bool)}
end te
end Go.Mv
namespace Go.Mv
open Go
section rd
variable {P : Program} {ty : TypeId} {E : Env} {L : Mem} {x y : Operand} {T : TypeId} {k : IntKind}
theorem RD.indexStr {s : ByteArray} {i : Nat} {c : UInt8} {z : Int} (hT : P.underlying T = some .string) (hx : evalE E x = some (.string s)) (hy : evalE E y = some (.int k z)) (hz : z = (i : Int)) (hc : s.data.toList[i]? = some c) : RD P (.index T x y) ty E L (bcell c) := fun ρ w _ _ _ _ hρ _ => by
  subst hz
  obtain ⟨hlt, rfl⟩ := List.getElem?_eq_some_iff.1 hc
  have h1 : i < s.size := by simpa using hlt
  have h2 : s[i]? = some (s.data.toList[i]) := by
    rw [getElem?_pos s i h1]; simp [ByteArray.getElem_eq_getElem_data]
  simp [execOp, hρ _ _ hx, hρ _ _ hy, Instr.index, asIntOf, run_underlying hT, h2, bcell]
theorem RD.sliceStr {s : ByteArray} {lo hi : Option Operand} {l h : Nat} (hT : P.underlying T = some .string) (hx : evalE E x = some (.string s))
    (hlo : match lo with | none => l = 0 | some o => ∃ k, evalE E o = some (.int k l)) (hhi : match hi with | none => h = s.size | some o => ∃ k, evalE E o = some (.int k h)) (h1 : l ≤ h) (h2 : h ≤ s.size) : RD P (.slice T x lo hi none) ty E L (.string (s.extract l h)) := fun ρ w _ _ _ _ hρ _ => by
  have hTu := run_underlying (w := w) hT
  cases lo with
  | none =>
    subst hlo
    cases hi with
    | none => subst hhi; simp [execOp, Instr.sliceAt, Instr.slice, Instr.sliceBounds, hTu, hρ _ _ hx]
    | some o => obtain ⟨k, ho⟩ := hhi; simp [execOp, Instr.sliceAt, Instr.slice, Instr.sliceBounds, Instr.sliceBound, asIntOf, hTu, hρ _ _ hx, hρ _ _ ho, h2]
  | some o' =>
    obtain ⟨k', ho'⟩ := hlo
    cases hi with
    | none => subst hhi; simp [execOp, Instr.sliceAt, Instr.slice, Instr.sliceBounds, Instr.sliceBound, asIntOf, hTu, hρ _ _ hx, hρ _ _ ho', h1]
    | some o => obtain ⟨k, ho⟩ := hhi; simp [execOp, Instr.sliceAt, Instr.slice, Instr.sliceBounds, Instr.sliceBound, asIntOf, hTu, hρ _ _ hx, hρ _ _ ho, hρ _ _ ho', h1, h2]
end rd
end Go.Mv
