import Derived.Test.YtiefjfcfijcgmaaGreatDoorMvB
import Derived.Laws.BitsAllLaws
import Derived.KernelRfl
import Derived.Lib.SplitLaws
namespace Go.Mv
open Go
/-- Bytes that can be read, at a slice that can be parted. -/
def Rdb (H : Mem) (v : Value) (ys : List UInt8) : Prop :=
  (v = .slice none 0 0 ∧ ys = []) ∨ ∃ b off cap, v = .slice (some ⟨b, off, none⟩) ys.length cap ∧ ys.length ≤ cap ∧ ∀ w, Hp H w → ∀ j u, (bcells ys)[j]? = some u → w.cell? ⟨b, off + j, none⟩ = some u

def subV (l h : Nat) : Value → Value
  | .slice (some ⟨b, off, _⟩) _ cap => .slice (some ⟨b, if cap = l then off else off + l, none⟩) (h - l) (cap - l)
  | v => v

theorem Rdb.mono {H H' : Mem} {v : Value} {ys : List UInt8} (h : Rdb H v ys) (hs : ∀ w, Hp H' w → Hp H w) : Rdb H' v ys := by
  rcases h with h | ⟨b, off, cap, h1, h2, h3⟩
  · exact .inl h
  · exact .inr ⟨b, off, cap, h1, h2, fun w hw => h3 w (hs w hw)⟩

theorem Rdb.sub {H : Mem} {v : Value} {ys : List UInt8} (h : Rdb H v ys) {l r : Nat} (h1 : l ≤ r) (h2 : r ≤ ys.length) : Rdb H (subV l r v) ((ys.take r).drop l) := by
  rcases h with ⟨rfl, rfl⟩ | ⟨b, off, cap, rfl, h3, h4⟩
  · exact .inl ⟨rfl, by simp⟩
  · refine .inr ⟨b, if cap = l then off else off + l, cap - l, ?_, ?_, ?_⟩
    · simp only [subV, List.length_drop, List.length_take, Nat.min_eq_left h2]
    · simp only [List.length_drop, List.length_take]; omega
    · intro w hw j u hj
      obtain ⟨hlt, _⟩ := List.getElem?_eq_some_iff.1 hj
      simp only [length_bcells, List.length_drop, List.length_take] at hlt
      have hne : ¬ cap = l := by omega
      rw [if_neg hne, Nat.add_assoc]
      refine h4 w hw (l + j) u ?_
      rw [← hj, bcells_get, bcells_get, List.getElem?_drop, List.getElem?_take_of_lt (by omega)]

theorem Rdb.bytes {H : Mem} {v : Value} {ys : List UInt8} (h : Rdb H v ys) : BytesIn H v ys := by
  rcases h with ⟨rfl, rfl⟩ | ⟨b, off, cap, rfl, h3, h4⟩
  · exact BytesIn.nil
  · refine ⟨_, cap, rfl, fun _ => ⟨_, rfl, fun w hw j u hj => ?_⟩⟩
    have hadd : (⟨b, off, none⟩ : Addr).add j = ⟨b, off + j, none⟩ := by
      unfold Addr.add; split
      · rename_i h; simp
      · rfl
    rw [hadd]; exact h4 w hw j u hj

theorem Rdb.cons {H : Mem} {v : Value} {c : UInt8} {r : List UInt8} (h : Rdb H v (c :: r)) : ∃ b off cap, v = .slice (some ⟨b, off, none⟩) (r.length + 1) cap ∧ r.length + 1 ≤ cap ∧ ∀ w, Hp H w → w.cell? ⟨b, off, none⟩ = some (bcell c) := by
  rcases h with ⟨_, h⟩ | ⟨b, off, cap, rfl, h3, h4⟩
  · cases h
  · exact ⟨b, off, cap, rfl, h3, fun w hw => h4 w hw 0 _ rfl⟩

theorem Rdb.shape {H : Mem} {v : Value} {ys : List UInt8} (h : Rdb H v ys) : ∃ a c, v = .slice a ys.length c := by
  rcases h with ⟨rfl, rfl⟩ | ⟨b, off, cap, rfl, h3, h4⟩
  · exact ⟨_, _, rfl⟩
  · exact ⟨_, _, rfl⟩

theorem Rdb.at {H : Mem} {v : Value} {ys : List UInt8} (h : Rdb H v ys) {i : Nat} {c : UInt8} (hi : ys[i]? = some c) : ∃ b off cap, v = .slice (some ⟨b, off, none⟩) ys.length cap ∧ ys.length ≤ cap ∧ ∀ w, Hp H w → w.cell? ⟨b, off + i, none⟩ = some (bcell c) := by
  rcases h with ⟨_, rfl⟩ | ⟨b, off, cap, rfl, h3, h4⟩
  · simp at hi
  · exact ⟨b, off, cap, rfl, h3, fun w hw => h4 w hw i _ (by rw [bcells_get, hi]; rfl)⟩

section rd
variable {P : Program} {ty : TypeId} {E : Env} {L : Mem} {v u : Value} {x y z : Operand} {T U : TypeId}
/-- A cell that is known to be there. -/
theorem RD.loadC {b off : Nat} (ha : ∀ w, (isAgg T).run P w = .ok false w) (hx : evalE E x = some (.pointer (some ⟨b, off, none⟩))) (hc : ∀ w, Hp L w → w.cell? ⟨b, off, none⟩ = some v) : RD P (.load T x) ty E L v := fun ρ w _ _ _ _ hρ hL => by
  simp [execOp, hρ _ _ hx, Instr.loadAt, Instr.sureAddr, loadVar, ha, hc w hL]

end rd
end Go.Mv
namespace Go.Mv
open Go
section te
variable {P : Program} {ops : Array Oper} {p : Pst} {q : List Nat} {C : Ctx} {L M : Mem} {k : Nat} {tr : Tr} {E : Env}
variable {d : Nat} {ty : TypeId} {ps : String} {af : Array Edge} {g : Option (Nat × Bool)}
end te
section done
variable {P : Program} {fn : Func} {C : Ctx} {E : Env} {H : Mem} {post : Value → Mem → Prop} {X : List Nat}
/-- How a frame leaves: with the deferred calls ds. -/
def LV (P : Program) (fn : Func) (C : Ctx) (R : Ending → World → Prop) (E : Env) (ds : List Deferred) (H : Mem) : Prop :=
  ∀ a w, Rep C.N [] E a → St C.w0 C.X H w → LeavesInM (Fw none) 0 P fn a.tmps R ds .returning w

variable {R : Ending → World → Prop} {ds : List Deferred}
theorem lv_ret (h : LV P fn C R E C.ds H) : PN C (retP P fn R) E H := fun a w hr hs => by
  unfold retP
  rw [hr.defers]
  exact h { a with defers := [] } w ⟨hr.size, rfl, hr.get⟩ hs

theorem lv_nil {v : Value} {H1 : Mem} {w0 : World} {N : Nat} {ds0 : List Deferred} (hv : ∀ a w, Rep N [] E a → St w0 X H w → (results fn a.tmps).run P w = .ok v w) (hp : post v H1) (hH : ∀ w, Hp H w → Hp H1 w) (hn : ∀ e ∈ H1, e.1 ∈ X ∨ w0.heap.size ≤ e.1) :
    LV P fn ⟨N, ds0, w0, X⟩ (Ret w0 X post) E [] H := fun a w hr hs => ⟨v, hv a w hr hs, v, H1, rfl, hp, hs.fr, hH w hs.hp, hn⟩

/-- Results, out of slots and cells. -/
def resF (P : Program) (E : Env) (H : Mem) : List ResultVar → List Value → Prop
  | [], vs => vs = []
  | .tmp t :: r, vs => ∃ v us, vs = v :: us ∧ E.get t = some v ∧ resF P E H r us
  | .cell b T :: r, vs => ∃ v us bb off, vs = v :: us ∧ E.get b = some (.pointer (some ⟨bb, off, none⟩)) ∧ (∀ w, Hp H w → (loadVar T ⟨bb, off, none⟩).run P w = .ok v w) ∧ resF P E H r us

theorem resF_run {P : Program} {N : Nat} {ds : List Deferred} {E : Env} {H : Mem} {a : Act} (hr : Rep N ds E a) (w : World) (hw : Hp H w) : ∀ (l : List ResultVar) (vs : List Value), resF P E H l vs →
    (l.mapM (m := Sem) fun | .tmp t => pure (a.tmps.getD t undef) | .cell b t => do loadVar t (← asAddr (a.tmps.getD b undef))).run P w = .ok vs w
  | [], vs, h => by simp only [resF] at h; subst h; rfl
  | .tmp t :: r, vs, h => by
    obtain ⟨v, us, rfl, h1, h2⟩ := h
    have ih := resF_run hr w hw r us h2
    have hv' : a.tmps.getD t undef = v := by simp [Array.getD_eq_getD_getElem?, hr.get t v h1]
    rw [List.mapM_cons]
    simp only [Sem.run_bind, Sem.run_pure, Result.andThen_ok, ih, hv']
  | .cell b T :: r, vs, h => by
    obtain ⟨v, us, bb, off, rfl, h1, hl, h2⟩ := h
    have ih := resF_run hr w hw r us h2
    have hv' : a.tmps.getD b undef = .pointer (some ⟨bb, off, none⟩) := by simp [Array.getD_eq_getD_getElem?, hr.get b _ h1]
    have hb := hl w hw
    have h3 : (do loadVar T (← asAddr (a.tmps.getD b undef))).run P w = .ok v w := by rw [hv']; simpa [asAddr] using hb
    rw [List.mapM_cons, Sem.run_bind]
    show Result.andThen ((do loadVar T (← asAddr (a.tmps.getD b undef))).run P w) _ = _
    rw [h3]
    simp only [Result.andThen_ok, Sem.run_bind, ih, Sem.run_pure]

theorem resultsF_run {P : Program} {fn : Func} {N : Nat} {ds : List Deferred} {E : Env} {H : Mem} {a : Act} (hr : Rep N ds E a) (w : World) (hw : Hp H w) {l : List ResultVar} (hl : fn.results = l.toArray) {vs : List Value} (h : resF P E H l vs) :
    (results fn a.tmps).run P w = .ok (tupV vs) w := by
  have := resF_run hr w hw l vs h
  unfold results
  rw [hl, Array.mapM_eq_mapM_toList]
  simp only [Sem.run_bind, Sem.run_map]
  erw [this]
  simp only [Result.andThen_ok, Sem.run_pure]
  rcases vs with _ | ⟨v, _ | ⟨u, r⟩⟩ <;> simp [tupV]

/-- The end: no deferred calls are left; results out of slots and cells. -/
theorem lv_end {l : List ResultVar} {vs : List Value} {H1 : Mem} {w0 : World} {N : Nat} {ds0 : List Deferred} (hl : fn.results = l.toArray) (hv : resF P E H l vs) (hp : post (tupV vs) H1) (hH : ∀ w, Hp H w → Hp H1 w) (hn : ∀ e ∈ H1, e.1 ∈ X ∨ w0.heap.size ≤ e.1) :
    LV P fn ⟨N, ds0, w0, X⟩ (Ret w0 X post) E [] H :=
  lv_nil (fun _ w hr hs => resultsF_run hr w hs.hp hl hv) hp hH hn
/-- The end of a function without deferred calls. -/
theorem pn_doneF {l : List ResultVar} {vs : List Value} {H1 : Mem} {w0 : World} {N : Nat} (hl : fn.results = l.toArray) (hv : resF P E H l vs) (hp : post (tupV vs) H1) (hH : ∀ w, Hp H w → Hp H1 w) (hn : ∀ e ∈ H1, e.1 ∈ X ∨ w0.heap.size ≤ e.1) :
    PN ⟨N, [], w0, X⟩ (retP P fn (Ret w0 X post)) E H := lv_ret (lv_end hl hv hp hH hn)
end done
end Go.Mv
namespace Go.Mv
open Go
theorem get_putL : ∀ (vs : List Value) (cs : Array Value) (off i : Nat), off + vs.length ≤ cs.size → (putL cs off vs)[i]? = if off ≤ i ∧ i < off + vs.length then vs[i - off]? else cs[i]?
  | [], cs, off, i, _ => by
    rw [if_neg (by simp only [List.length_nil]; omega)]; rfl
  | v :: r, cs, off, i, h => by
    simp only [List.length_cons] at h
    rw [putL, get_putL r _ (off + 1) i (by rw [Array.size_setIfInBounds]; omega)]
    by_cases h1 : off + 1 ≤ i ∧ i < off + 1 + r.length
    · rw [if_pos h1, if_pos (by simp only [List.length_cons]; omega), show i - off = (i - (off + 1)) + 1 from by omega, List.getElem?_cons_succ]
    · rw [if_neg h1]
      by_cases h2 : off = i
      · subst h2
        rw [Array.getElem?_setIfInBounds_self_of_lt (by omega), if_pos (by simp only [List.length_cons]; omega), Nat.sub_self]; rfl
      · rw [Array.getElem?_setIfInBounds_ne h2, if_neg (by simp only [List.length_cons]; omega)]
theorem putL_whole {cs : Array Value} {vs : List Value} (h : vs.length = cs.size) : putL cs 0 vs = vs.toArray := by
  apply Array.ext_getElem?
  intro i
  rw [get_putL vs cs 0 i (by omega)]
  by_cases hi : i < vs.length
  · rw [if_pos (by omega)]; simp
  · rw [if_neg (by omega), Array.getElem?_eq_none (by omega), Array.getElem?_eq_none (by simp; omega)]
section rd
variable {P : Program} {ty : TypeId} {E : Env} {L : Mem} {x y : Operand} {T U : TypeId}
end rd
theorem pn_perm {C : Ctx} {K : Act → World → Prop} {E : Env} {H : Mem} (H' : Mem) (hp : ∀ w, Hp H w → Hp H' w) (h : PN C K E H') : PN C K E H := fun a w hr hs => h a w hr ⟨hs.fr, hp w hs.hp⟩

section te
variable {P : Program} {rd : Option Nat} {ops : Array Oper} {p : Pst} {q : List Nat} {C : Ctx} {L M : Mem} {k : Nat} {tr : Tr} {E : Env}
variable {d : Nat} {ty : TypeId} {ps : String} {af : Array Edge} {g : Option (Nat × Bool)}
end te
end Go.Mv
namespace Go.Mv
open Go
section te
variable {P : Program} {rd : Option Nat} {ops : Array Oper} {p : Pst} {q : List Nat} {C : Ctx} {L M : Mem} {k : Nat} {tr : Tr} {E : Env}
variable {d : Nat} {ty : TypeId} {ps : String} {af : Array Edge} {g : Option (Nat × Bool)}
theorem TE_perm (M' : Mem) (hp : M.Perm M') (h : TE P rd ops p q C L tr E M') : TE P rd ops p q C L tr E M := fun a w hr hs => h a w hr ⟨hs.fr, hs.hp.perm (List.Perm.append_right L hp)⟩

end te
end Go.Mv
namespace Go.Mv
open Go
section rd
variable {P : Program} {ty : TypeId} {E : Env} {L : Mem} {x y : Operand} {T : TypeId} {k : IntKind}
theorem RD.indexStr {s : ByteArray} {i : Nat} {c : UInt8} {z : Int} (hT : P.underlying T = some .string) (hx : evalE E x = some (.string s)) (hy : evalE E y = some (.int k z)) (hz : z = (i : Int)) (hc : s.data.toList[i]? = some c) : RD P (.index T x y) ty E L (bcell c) := fun ρ w _ _ _ _ hρ _ => by
  subst hz
  obtain ⟨hlt, rfl⟩ := List.getElem?_eq_some_iff.1 hc
  have h1 : i < s.size := by simpa using hlt
  have h2 : s[i]? = some (s.data.toList[i]) := by
    rw [getElem?_pos s i h1]; simp [ByteArray.getElem_eq_getElem_data]
  simp [execOp, hρ _ _ hx, hρ _ _ hy, Instr.index, asIntOf, run_underlying hT, h2, bcell]
theorem RD.sliceStr {s : ByteArray} {lo hi : Option Operand} {l h : Nat} (hT : P.underlying T = some .string) (hx : evalE E x = some (.string s))
    (hlo : match lo with | none => l = 0 | some o => ∃ k, evalE E o = some (.int k l)) (hhi : match hi with | none => h = s.size | some o => ∃ k, evalE E o = some (.int k h)) (h1 : l ≤ h) (h2 : h ≤ s.size) : RD P (.slice T x lo hi none) ty E L (.string (s.extract l h)) := fun ρ w _ _ _ _ hρ _ => by
  have hTu := run_underlying (w := w) hT
  cases lo with
  | none =>
    subst hlo
    cases hi with
    | none => subst hhi; simp [execOp, Instr.sliceAt, Instr.slice, Instr.sliceBounds, hTu, hρ _ _ hx]
    | some o => obtain ⟨k, ho⟩ := hhi; simp [execOp, Instr.sliceAt, Instr.slice, Instr.sliceBounds, Instr.sliceBound, asIntOf, hTu, hρ _ _ hx, hρ _ _ ho, h2]
  | some o' =>
    obtain ⟨k', ho'⟩ := hlo
    cases hi with
    | none => subst hhi; simp [execOp, Instr.sliceAt, Instr.slice, Instr.sliceBounds, Instr.sliceBound, asIntOf, hTu, hρ _ _ hx, hρ _ _ ho', h1]
    | some o => obtain ⟨k, ho⟩ := hhi; simp [execOp, Instr.sliceAt, Instr.slice, Instr.sliceBounds, Instr.sliceBound, asIntOf, hTu, hρ _ _ hx, hρ _ _ ho, hρ _ _ ho', h1, h2]
end rd
theorem extract_toList (s : ByteArray) (l h : Nat) : (s.extract l h).data.toList = (s.data.toList.take h).drop l := by
  simp [ByteArray.data_extract, List.drop_take]
theorem bytes_eq {a b : ByteArray} (h : a.data.toList = b.data.toList) : a = b := ByteArray.ext (Array.toList_inj.1 h)

/-- The parts between slashes, byte by byte. -/
def pt : List UInt8 → List UInt8 → List (List UInt8)
  | cur, [] => [cur]
  | cur, c :: r => if c = 47 then cur :: pt [] r else pt (cur ++ [c]) r
theorem pt_none : ∀ (l cur : List UInt8), (47 : UInt8) ∉ l → pt cur l = [cur ++ l]
  | [], cur, _ => by simp [pt]
  | c :: r, cur, h => by
    simp only [List.mem_cons, not_or] at h
    rw [pt, if_neg (fun e => h.1 e.symm), pt_none r _ h.2]; simp
theorem pt_hit : ∀ (a cur r : List UInt8), (47 : UInt8) ∉ a → pt cur (a ++ 47 :: r) = (cur ++ a) :: pt [] r
  | [], cur, r, _ => by simp [pt]
  | c :: a, cur, r, h => by
    simp only [List.mem_cons, not_or] at h
    rw [List.cons_append, pt, if_neg (fun e => h.1 e.symm), pt_hit a _ r h.2]; simp
theorem index_slash {a r : List UInt8} (h : (47 : UInt8) ∉ a) : Lib.index (a ++ 47 :: r) [47] = (a.length : Nat) := by
  refine Lib.index_first (by simp) (by simp [Lib.occAt, List.isPrefixOf]) (fun j hj => ?_)
  cases hb : Lib.occAt (a ++ 47 :: r) [47] j with
  | false => rfl
  | true =>
    have h1 := Lib.occAt_head rfl hb
    rw [List.getElem?_append_left hj] at h1
    exact absurd (List.mem_of_getElem? h1) h
theorem first_split {c : UInt8} : ∀ l : List UInt8, c ∈ l → ∃ a r, l = a ++ c :: r ∧ c ∉ a
  | [], h => by simp at h
  | b :: l, h => by
    by_cases hb : b = c
    · exact ⟨[], l, by simp [hb], by simp⟩
    · have hl : c ∈ l := by
        rcases List.mem_cons.1 h with h | h
        · exact absurd h.symm hb
        · exact h
      obtain ⟨a, r, rfl, ha⟩ := first_split l hl
      exact ⟨b :: a, r, rfl, by simp only [List.mem_cons, not_or]; exact ⟨fun e => hb e.symm, ha⟩⟩
theorem split_pt : ∀ (n : Nat) (l : List UInt8), l.length ≤ n → Lib.splitK [47] 0 (l.count 47) l = pt [] l
  | n, l, hn => by
    by_cases h : (47 : UInt8) ∈ l
    · obtain ⟨a, r, rfl, ha⟩ := first_split l h
      cases n with
      | zero => simp at hn
      | succ n =>
        have hc : (a ++ 47 :: r).count 47 = r.count 47 + 1 := by
          rw [List.count_append, List.count_cons_self, List.count_eq_zero.2 ha]; omega
        rw [hc, Lib.splitK, index_slash ha, pt_hit a [] r ha]
        have hne : ¬ (((a.length : Nat) : Int) == -1) = true := by simp
        rw [if_neg hne]
        simp only [Int.toNat_natCast, Nat.add_zero, List.nil_append, List.length_cons, List.length_nil, Nat.zero_add]
        rw [List.take_left' rfl, ← List.drop_drop, List.drop_left' rfl, List.drop_one, List.tail_cons]
        rw [split_pt n r (by simp at hn; omega)]
    · rw [List.count_eq_zero.2 h, Lib.splitK, pt_none l [] h, List.nil_append]
theorem partsOf_pt (s : ByteArray) : (partsOf s).map (fun x => x.data.toList) = pt [] s.data.toList := by
  unfold partsOf
  rw [Lib.splitB_data]
  have : Lib.countB s ⟨#[47]⟩ = s.data.toList.count 47 := Lib.count_one 47 _
  rw [this]
  exact split_pt _ _ (Nat.le_refl _)

theorem contains2 {l : List UInt8} {x y : UInt8} : Lib.contains l [x, y] = true ↔ ∃ i, l[i]? = some x ∧ l[i + 1]? = some y := by
  have hocc : ∀ j, Lib.occAt l [x, y] j = true ↔ l[j]? = some x ∧ l[j + 1]? = some y := fun j => by
    simp only [Lib.occAt]
    have e0 : l[j]? = (l.drop j)[0]? := by rw [List.getElem?_drop]; rfl
    have e1 : l[j + 1]? = (l.drop j)[1]? := by rw [List.getElem?_drop]
    rw [e0, e1]
    cases l.drop j with
    | nil => simp [List.isPrefixOf]
    | cons a t =>
      cases t with
      | nil => simp [List.isPrefixOf]
      | cons b t =>
        simp only [List.isPrefixOf, Bool.and_true, Bool.and_eq_true, beq_iff_eq, List.getElem?_cons_zero, List.getElem?_cons_succ, Option.some.injEq]
        exact ⟨fun h => ⟨h.1.symm, h.2.symm⟩, fun h => ⟨h.1.symm, h.2.symm⟩⟩
  simp only [Lib.contains, decide_eq_true_eq]
  rcases Lib.index_spec l [x, y] with ⟨h1, h2⟩ | ⟨i, h1, _, h3, _⟩
  · rw [h1]
    refine ⟨fun h => absurd h (by decide), fun ⟨i, hi, hi'⟩ => ?_⟩
    have hlt := (List.getElem?_eq_some_iff.1 hi).1
    have := h2 i (by omega)
    rw [(hocc i).2 ⟨hi, hi'⟩] at this
    cases this
  · rw [h1]
    exact ⟨fun _ => ⟨i, (hocc i).1 h3⟩, fun _ => Int.natCast_nonneg i⟩
theorem suffix_iff {l suf : List UInt8} : Lib.hasSuffix l suf = true ↔ suf.length ≤ l.length ∧ l.drop (l.length - suf.length) = suf := by
  simp only [Lib.hasSuffix, List.isSuffixOf_iff_suffix]
  constructor
  · rintro ⟨t, rfl⟩
    rw [List.length_append, Nat.add_sub_cancel, List.drop_left]
    exact ⟨Nat.le_add_left _ _, rfl⟩
  · rintro ⟨h1, h2⟩
    rw [← h2]; exact List.drop_suffix _ _
end Go.Mv
