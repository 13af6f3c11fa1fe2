import Derived.Test.YtcmnmigcalibdaaGreatDoorGag
import Derived.Deep.AppendSrc
import Derived.Stop.Looks
namespace Go.Mv
open Go Go.Proofs
def clipV : Value → Value
  | .slice a n _ => .slice a n n
  | v => v
theorem Rdx.clip {α : Type} {sz : Nat} {enc : α → List Value} {H : Mem} {v : Value} {xs : List α} (h : Rdx sz enc H v xs) : Rdx sz enc H (clipV v) xs := by
  rcases h with ⟨⟨a0, rfl⟩, rfl⟩ | ⟨b, off, cap, rfl, h1, h2⟩
  · exact .inl ⟨⟨_, rfl⟩, rfl⟩
  · exact .inr ⟨b, off, xs.length, rfl, Nat.le_refl _, h2⟩
theorem Rdb.clip {H : Mem} {v : Value} {xs : List UInt8} (h : Rdb H v xs) : Rdb H (clipV v) xs := Rdb.of_x (Rdx.of_b h).clip
section rd
variable {P : Program} {ty : TypeId} {E : Env} {L : Mem} {v u : Value} {x y z : Operand} {T U : TypeId}
theorem RD.clipX {α : Type} {sz : Nat} {enc : α → List Value} {H : Mem} {xs : List α} {el : TypeId} {hi mx : Operand} {k1 k2 : IntKind} (hT : ∀ w, (underlying T).run P w = .ok (.slice el) w) (hz : ∀ w, (sizeOf el).run P w = .ok sz w) (hx : evalE E x = some v) (hb : Rdx sz enc H v xs)
    (hh : evalE E hi = some (.int k1 (xs.length : Int))) (hm : evalE E mx = some (.int k2 (xs.length : Int))) : RD P (.slice T x none (some hi) (some mx)) ty E L (clipV v) := fun ρ w _ _ _ _ hρ _ => by
  rcases hb with ⟨⟨a0, rfl⟩, rfl⟩ | ⟨b, off, cap, rfl, h3, h4⟩
  · simp [execOp, Instr.sliceAt, Instr.slice, Instr.sliceBounds, Instr.sliceBound, asIntOf, hT, hz, hρ _ _ hx, hρ _ _ hh, hρ _ _ hm, clipV]
  · simp [execOp, Instr.sliceAt, Instr.slice, Instr.sliceBounds, Instr.sliceBound, asIntOf, hT, hz, hρ _ _ hx, hρ _ _ hh, hρ _ _ hm, clipV, Addr.add, h3]
end rd
section te
variable {P : Program} {rd : Option Nat} {ops : Array Oper} {p : Pst} {q : List Nat} {C : Ctx} {E : Env} {M L : Mem} {k : Nat} {tr : Tr} {ty : TypeId} {ps : String} {af : Array Edge} {g : Option (Nat × Bool)} {d : Nat}
/-- append onto a slice whose room is cut off: it is laid anew, or nothing is appended. -/
theorem TE_appendC {α : Type} {sz by' : Nat} {enc : α → List Value} {s x : Operand} {sT el : TypeId} {z xv v : Value} {xs ys : List α} {H0 H2 : Mem} (hk : ∀ x, (enc x).length = sz) (h1 : ∀ x, ∀ v ∈ enc x, v.oneCell' = true)
    (ho : ops[k]? = some ⟨some d, .call ⟨.builtin .append, #[s, x], #[sT, sT]⟩, ty, ps, af, g⟩) (hl : ld ops q k = true) (hg : GOK ops E g) (hd : Nat.blt d C.N = true)
    (hT : P.underlying sT = some (.slice el)) (hI : ElI P el sz by' z) (hzs : Nat.beq z.cells.size sz = true) (hsz : Nat.blt 0 sz = true)
    (hs : evalE E s = some (clipV v)) (hx : evalE E x = some xv) (hb : Rdx sz enc H0 v xs) (hb0 : ∀ w, Hp (M ++ L) w → Hp H0 w) (hb2 : Rdx sz enc H2 xv ys) (hb3 : ∀ w, Hp (M ++ L) w → Hp H2 w)
    (hlen : xs.length + ys.length ≤ 137438953472) (hby : Nat.ble by' 1024 = true)
    (h : ∀ v' Hn, Rdx sz enc (Hn ++ H0) v' (xs ++ ys) → (∀ e ∈ Hn, C.w0.heap.size ≤ e.1 ∨ e.1 ∈ C.X) → TE P rd ops p q C L tr ((d, v') :: E) (Hn ++ M)) : TE P rd ops p q C L (.op k tr) E M := by
  have hs0 : 0 < sz := by simpa using hsz
  have hbytes : (xs.length + ys.length) * by' ≤ 140737488355328 := Nat.le_trans (Nat.mul_le_mul hlen (Nat.le_of_ble_eq_true hby)) (by decide)
  have hbc := hb.clip
  by_cases hy : ys = []
  · subst hy
    obtain ⟨a, c, rfl⟩ := hb2.shape
    obtain ⟨a', c', rfl⟩ := hb.shape
    have h9 := h (clipV (.slice a' xs.length c')) [] (by rw [List.append_nil]; exact hbc) (by intro e he; cases he)
    exact TE_l ho hl hg rfl (RD.append0 hT hI hs hx (Nat.le_refl _)) hd h9
  · refine TE_loud ho hl hg rfl fun a w hr hst => ?_
    obtain ⟨i0, hi0, hz0, hz1, hz2⟩ := info_parts hI
    subst hz1
    obtain ⟨ad, c, rfl, hread⟩ := hb2.src (C := C) hk hs0 hy hb3
    have hsrc : Go.Src P i0.size sT (.slice (some ad) ys.length c) ys.length (cat enc ys) w := Go.Src.ofSlice w hT ad _ c _ (cat_len hk ys) (hread w hst) (cat_one h1 ys)
    obtain ⟨a', c', hv⟩ := hb.shape
    have hcv : clipV v = .slice a' xs.length xs.length := by rw [hv]; rfl
    have hold : (Builtin.firstCells i0.size xs.length (.slice a' xs.length xs.length)).run P w.drew = .ok (cat enc xs).toArray w.drew := by
      by_cases hx0 : xs = []
      · subst hx0
        rcases hb with ⟨⟨a1, h5⟩, _⟩ | ⟨b, off, cap, h5, _, _⟩
        · rw [h5] at hv
          cases hv
          rcases a' with _ | ad1
          · exact (Go.Src.ofNil (size := i0.size) w hT 0).cellsD
          · exact (Go.Src.ofSlice (size := i0.size) w hT ad1 0 0 [] (by simp) (by simp) (by simp)).cellsD
        · rw [h5] at hv
          cases hv
          exact (Go.Src.ofSlice (size := i0.size) w hT ⟨b, off, none⟩ 0 0 [] (by simp) (by simp) (by simp)).cellsD
      · obtain ⟨ad2, c2, h6, hread2⟩ := hbc.src (C := C) hk hs0 hx0 hb0
        rw [hcv] at h6
        cases h6
        exact (Go.Src.ofSlice (size := i0.size) w hT ad2 xs.length xs.length _ (cat_len hk xs) (hread2 w hst) (cat_one h1 xs)).cellsD
    have hpos : 0 < ys.length := List.length_pos_iff.2 hy
    have hrun := run_append_grow_src (P := P) w sT sT ty el i0 z hT hi0 hz0 a' xs.length xs.length (cat enc xs) hold (.slice (some ad) ys.length c) ys.length (cat enc ys) hsrc (by omega) (by omega) (growslice_fits (by omega) (by rw [hz2]; exact hbytes))
    have hge := grownCap_ge w (xs.length + ys.length) xs.length el
    generalize grownCap w (xs.length + ys.length) xs.length el = gc at hrun hge
    rw [run_append_op ((hr.eval hs).trans hcv) (hr.eval hx) hrun]
    have hs' : St C.w0 C.X (M ++ L) w.drew := ⟨hst.fr.drew, hst.hp.drew⟩
    have hcells : ((cat enc xs ++ cat enc ys).toArray ++ Builtin.zeroCells z.cells (gc - (xs.length + ys.length))) = (cat enc (xs ++ ys) ++ (Builtin.zeroCells z.cells (gc - (xs.length + ys.length))).toList).toArray := by
      rw [cat_append]
      apply Array.toList_inj.1
      simp
    rw [hcells]
    have hn := hs'.new (.cells (cat enc (xs ++ ys) ++ (Builtin.zeroCells z.cells (gc - (xs.length + ys.length))).toList).toArray el (0, 0))
    have hrx : Rdx i0.size enc [(w.heap.size, .cells (cat enc (xs ++ ys) ++ (Builtin.zeroCells z.cells (gc - (xs.length + ys.length))).toList).toArray el (0, 0))] (.slice (some ⟨w.heap.size, 0, none⟩) (xs.length + ys.length) gc) (xs ++ ys) := Rdx.blk (i := 0) hk rfl (by simp) (by simpa using hge)
    exact ⟨hn.hp.sub (List.sublist_append_right (_ :: M) L), h _ [(w.heap.size, _)] (hrx.mono fun w h => h.sub (List.sublist_append_left _ _)) (by intro e he; obtain rfl := List.mem_singleton.1 he; exact .inl hst.fr.size) _ _ (hr.put (by simpa using hd) _) hn⟩
end te
theorem tmod_nat (a b : Nat) : ((a : Int).tmod (b : Int)) = ((a % b : Nat) : Int) := by rw [Int.tmod_eq_emod_of_nonneg (by omega)]; simp
section te2
variable {P : Program} {rd : Option Nat} {ops : Array Oper} {p : Pst} {q : List Nat} {C : Ctx} {E : Env} {M L : Mem} {k : Nat} {tr : Tr} {ty : TypeId} {ps : String} {af : Array Edge}
/-- copy out of what can be read, as much as there is room for, into a block. -/
theorem TE_copyM {α : Type} {enc : α → List Value} {x y : Operand} {dT sT el : TypeId} {by' : Nat} {z xv : Value} {b o dLen dCap : Nat} {t : TypeId} {H0 : Mem} {d : Nat} {g : Option (Nat × Bool)} (i : Nat) (m : Nat) (ys : List α) (cur cur' : Array Value) (M' : Mem) (ho : ops[k]? = some ⟨some d, .call ⟨.builtin .copy, #[x, y], #[dT, sT]⟩, ty, ps, af, g⟩) (hl : ld ops q k = true) (hg : GOK ops E g) (hd : Nat.blt d C.N = true)
    (hT : P.underlying dT = some (.slice el)) (hz : ∀ w, (sizeOf el).run P w = .ok 1 w) (hI : ElI P el 1 by' z) (hk : ∀ x, (enc x).length = 1) (h1 : ∀ x, ∀ v ∈ enc x, v.oneCell' = true) (hx : evalE E x = some (.slice (some ⟨b, o, none⟩) dLen dCap)) (hy : evalE E y = some xv)
    (hb : Rdx 1 enc H0 xv ys) (hm : ∀ w, Hp (M ++ L) w → Hp H0 w) (hn : m = min ys.length dLen) (hi : M[i]? = some (b, .cells cur t (0, 0))) (hfit : o + m ≤ cur.size) (hw : C.w0.heap.size ≤ b ∨ b ∈ C.X)
    (hc : putL cur o (cat enc (ys.take m)) = cur') (hM : M.set i (b, .cells cur' t (0, 0)) = M') (h : TE P rd ops p q C L tr ((d, .int .i64 m) :: E) M') : TE P rd ops p q C L (.op k tr) E M := by
  subst hc; subst hM
  have hmle : m ≤ ys.length := by omega
  have hlen : (cat enc (ys.take m)).length = m := by rw [cat_len hk, Nat.mul_one, List.length_take, Nat.min_eq_left hmle]
  rcases hb with ⟨⟨a0, rfl⟩, rfl⟩ | ⟨b', off, cap, rfl, hcap, hcell⟩
  · obtain rfl : m = 0 := by simpa using hmle
    rw [show putL cur o (cat enc (([] : List α).take 0)) = cur from rfl, set_same hi] at h
    exact TE_l ho hl hg rfl (RD.copyNil hT hz hx hy) hd h
  · refine TE_copy ho hl hg hd hT hI hx hy (cs := cat enc (ys.take m)) (by rw [hlen]; exact hn) (fun w hw j u hj => ?_) hi (by rw [hlen]; exact hfit) (cat_one h1 _) hw (by rw [hlen]; exact h)
    obtain ⟨a, ha, hu, _⟩ := cat_out hk (by omega) hj
    rw [Nat.div_one] at ha; rw [Nat.mod_one] at hu
    have ha' : ys[j]? = some a := by
      rw [List.getElem?_take] at ha
      split at ha
      · exact ha
      · cases ha
    have := hcell w (hm w hw) j a ha' 0 u hu
    rw [add_none]; simpa using this
end te2
section rd2
variable {P : Program} {ty : TypeId} {E : Env} {L : Mem} {v u : Value} {x y z : Operand} {T U : TypeId}
theorem RD.sliceAL {b off n sz : Nat} {el : TypeId} {lo : Operand} {k : IntKind} {l : Nat} {zi : Int} (hT : ∀ w, (underlying T).run P w = .ok (.array n el) w) (hz : ∀ w, (sizeOf el).run P w = .ok sz w) (hx : evalE E x = some (.pointer (some ⟨b, off, none⟩)))
    (hlo : evalE E lo = some (.int k zi)) (hzi : zi = (l : Int)) (h1 : l < n) :
    RD P (.slice T x (some lo) none none) ty E L (.slice (some ⟨b, off + l * sz, none⟩) (n - l) (n - l)) := fun ρ w _ _ _ _ hρ _ => by
  subst hzi
  have h3 : l ≤ n := by omega
  have h4 : ¬ (n = l) := by omega
  simp [execOp, Instr.sliceAt, Instr.sureAddr, Instr.sliceBounds, Instr.sliceBound, asIntOf, hT, hz, hρ _ _ hx, hρ _ _ hlo, Addr.add, h3, h4]
end rd2
end Go.Mv

namespace Go.Mv
open Go Go.Proofs
def isLd (o : Oper) : Bool := match o.op with | .load .. => true | _ => false
def LL (loud : Nat → Bool) (j i : Nat) (oj oi : Oper) : Prop := ¬ (loud j = true ∧ loud i = true) ∨ (isLd oj = true ∧ isLd oi = true)
theorem loadAt_looks (t : TypeId) (v : Value) : (Instr.loadAt t v).Looks := by
  unfold Instr.loadAt
  refine Sem.Looks.bind ?_ fun a => ?_
  · unfold Instr.sureAddr; split <;> trivial
  · unfold loadVar
    refine Sem.Looks.bind ?_ fun b => ?_
    · unfold isAgg; refine (underlying_looks t).bind fun _ => ?_; split <;> trivial
    · cases b
      · exact load_looks _ _
      · exact (sizeOf_looks t).bind fun n => (loadCells_looks _ n).bind fun _ => trivial
section region
variable {P : Program} {rd : Option Nat} {ops : Array Oper} {Q : Exit → Act → World → Prop} {Lp : World → Prop} {loud : Nat → Bool}
/-- What a load comes to in this world. -/
def QW (P : Program) (ops : Array Oper) (o : Oper) (a : Act) (w : World) (v : Value) : Prop :=
  (Region.wanted o (yielded ops a.tmps) = true → (execOp a.eval o).run P w = .ok (.value v) w) ∧ (Region.wanted o (yielded ops a.tmps) = false → v = undef)
theorem QW.congr {o : Oper} {a b : Act} {w : World} {v : Value} (he : execOp b.eval o = execOp a.eval o) (hw : Region.wanted o (yielded ops b.tmps) = Region.wanted o (yielded ops a.tmps))
    (h : QW P ops o a w v) : QW P ops o b w v := by
  unfold QW at *; rw [he, hw]; exact h
theorem wpLd {i : Nat} {o : Oper} (hi : ops[i]? = some o) (hl : isLd o = true) (hQ : ∀ c a w, ¬ Q (.panic c) a w) {a : Act} {w : World} {K : Act → World → Prop}
    (h : wpOpIn (Fw rd) 0 P ops Q i K a w) : ∃ v, QW P ops o a w v ∧ K (a.put o.dst v) w := by
  have hd : ∀ c, o.op ≠ .defer c := by intro c hc; simp [isLd, hc] at hl
  obtain ⟨t, x, hop⟩ : ∃ t x, o.op = .load t x := by
    unfold isLd at hl; split at hl
    · exact ⟨_, _, by assumption⟩
    · cases hl
  unfold wpOpIn at h
  simp only [hi] at h
  split at h
  · rename_i hw
    unfold Oper.wpIn at h
    have h := h.2
    rw [Oper.semAt_eq _ _ _ hd] at h
    have he : execOp a.eval o = (do pure (Next.value (← Instr.loadAt t (a.eval x)))) := by unfold execOp; rw [hop]
    rw [he] at h
    cases hr : (Instr.loadAt t (a.eval x)).run P w with
    | ok v w' =>
      obtain rfl := (loadAt_looks t (a.eval x)).ok hr
      have hr2 : (execOp a.eval o).run P w' = .ok (.value v) w' := by rw [he]; simp [hr]
      rw [← he, hr2] at h
      exact ⟨v, ⟨fun _ => hr2, fun h' => by rw [h'] at hw; cases hw⟩, h⟩
    | halt c w' =>
      have hr2 : (execOp a.eval o).run P w = .halt c w' := by rw [he]; simp [hr]
      rw [← he, hr2] at h
      cases c <;> simp only [Oper.uponIn] at h
      case panic u => exact (hQ _ _ _ h).elim
  · rename_i hw
    exact ⟨undef, ⟨fun h' => absurd h' hw, fun _ => rfl⟩, h.2⟩
theorem Ldwp {i : Nat} {o : Oper} (hi : ops[i]? = some o) (hl : isLd o = true) {a : Act} {w : World} {K : Act → World → Prop} {v : Value} (hv : QW P ops o a w v) (h : K (a.put o.dst v) w) :
    wpOpIn (Fw rd) 0 P ops Q i K a w := by
  have hd : ∀ c, o.op ≠ .defer c := by intro c hc; simp [isLd, hc] at hl
  unfold wpOpIn
  simp only [hi]
  split
  · rename_i hw
    unfold Oper.wpIn
    refine ⟨fun _ _ => trivial, ?_⟩
    rw [Oper.semAt_eq _ _ _ hd, hv.1 hw]
    exact h
  · rename_i hw
    refine ⟨fun _ _ => trivial, ?_⟩
    rw [← hv.2 (by simpa using hw)]
    exact h
theorem swap2 (hg : Good ops) (hQ : ∀ c a w, ¬ Q (.panic c) a w) (hO : ¬ LetsOut Q) {i j : Nat} {oi oj : Oper} (hi : ops[i]? = some oi) (hj : ops[j]? = some oj)
    (hap : oj.apart ops oi = true) (hl : LL loud j i oj oi) {r : List Nat} {a : Act} {w : World} (hL : Lp w)
    (h : TO P rd ops Q Lp loud (j :: i :: r) a w) : TO P rd ops Q Lp loud (i :: j :: r) a w := by
  by_cases hb : loud j = true ∧ loud i = true
  · obtain ⟨hlj, hli⟩ := hb
    obtain ⟨ldj, ldi⟩ := hl.resolve_left fun h => h ⟨hlj, hli⟩
    obtain ⟨h1, h2, h3⟩ := Oper.apart_spec hap
    obtain ⟨_, hsi⟩ := hg.plain i oi hi
    obtain ⟨_, hsj⟩ := hg.plain j oj hj
    rw [TO_loud hj hlj] at h
    obtain ⟨vj, hvj, _, h⟩ := wpLd hj ldj hQ h
    rw [TO_loud hi hli] at h
    obtain ⟨vi, hvi, _, h⟩ := wpLd hi ldi hQ h
    rw [TO_loud hi hli]
    refine Ldwp hi ldi (hvi.congr (execOp_put oi hsi a oj.dst vj h1).symm (wanted_put oi a oj.dst vj h1).symm) ⟨hL, ?_⟩
    rw [TO_loud hj hlj]
    refine Ldwp hj ldj (hvj.congr (execOp_put oj hsj a oi.dst vi h3) (wanted_put oj a oi.dst vi h3)) ⟨hL, ?_⟩
    rw [← Act.put_comm a vj vi h2]; exact h
  · exact swap hg hQ hO hi hj hap hb hL h
theorem front2 (hg : Good ops) (hQ : ∀ c a w, ¬ Q (.panic c) a w) (hO : ¬ LetsOut Q) {i : Nat} {oi : Oper} (hi : ops[i]? = some oi) :
    ∀ (pre post : List Nat), (∀ j ∈ pre, ∃ oj, ops[j]? = some oj ∧ oj.apart ops oi = true ∧ LL loud j i oj oi) → ∀ (a : Act) (w : World), Lp w →
      TO P rd ops Q Lp loud (pre ++ i :: post) a w → TO P rd ops Q Lp loud (i :: (pre ++ post)) a w := by
  intro pre
  induction pre with
  | nil => intro post _ a w _ h; exact h
  | cons j pre ih =>
    intro post hp a w hL h
    obtain ⟨oj, hj, hap, hl⟩ := hp j (by simp)
    refine swap2 hg hQ hO hi hj hap hl hL ?_
    exact TO_mono (fun a w hL h => ih post (fun k hk => hp k (by simp [hk])) a w hL h) hL h

/-- The check of a region that draws its order: edges go back; what is not reached by edges is apart, and no two loud ones are. 'cl': who is reached, as bits. -/
def chk2 (ops : Array Oper) (loud : Nat → Bool) (cl : Array Nat) : Bool :=
  (List.range ops.size).all fun i =>
    match ops[i]? with
    | none => false
    | some o =>
      (match o.op with | .defer _ => false | .select .. => false | _ => true) &&
      (o.after.toList.all fun e => !Region.binds .any e || Nat.blt e.on i) &&
      (List.range i).all fun j =>
        match ops[j]? with
        | none => false
        | some oj =>
          if (cl.getD i 0).testBit j then o.after.toList.any fun e => Region.binds .any e && (e.on == j || (Nat.blt j e.on && (cl.getD e.on 0).testBit j))
          else oj.apart ops o && (!(loud j && loud i) || (isLd oj && isLd o))

theorem chk2_spec {cl : Array Nat} (h : chk2 ops loud cl = true) {i : Nat} {o : Oper} (hi : ops[i]? = some o) :
    ((∀ c, o.op ≠ .defer c) ∧ (∀ cs b, o.op ≠ .select cs b)) ∧ (∀ e ∈ o.after, Region.binds .any e = true → e.on < i) ∧
    ∀ j, j < i → ∃ oj, ops[j]? = some oj ∧
      (((cl.getD i 0).testBit j = true ∧ ∃ e ∈ o.after, Region.binds .any e = true ∧ (e.on = j ∨ (j < e.on ∧ (cl.getD e.on 0).testBit j = true))) ∨
       ((cl.getD i 0).testBit j = false ∧ oj.apart ops o = true ∧ LL loud j i oj o)) := by
  have hlt : i < ops.size := (Array.getElem?_eq_some_iff.1 hi).1
  unfold chk2 at h
  rw [List.all_eq_true] at h
  have h1 := h i (by simpa using hlt)
  simp only [hi, Bool.and_eq_true] at h1
  obtain ⟨⟨h1, h2⟩, h3⟩ := h1
  refine ⟨⟨?_, ?_⟩, ?_, ?_⟩
  · intro c hc; rw [hc] at h1; simp at h1
  · intro cs b hc; rw [hc] at h1; simp at h1
  · intro e he hb
    rw [List.all_eq_true] at h2
    have := h2 e (by simpa using he)
    simp [hb] at this
    exact this
  · intro j hj
    rw [List.all_eq_true] at h3
    have h4 := h3 j (by simpa using hj)
    cases hoj : ops[j]? with
    | none => simp [hoj] at h4
    | some oj =>
      refine ⟨oj, rfl, ?_⟩
      simp only [hoj] at h4
      split at h4
      · rename_i hb
        left
        refine ⟨hb, ?_⟩
        rw [List.any_eq_true] at h4
        obtain ⟨e, he, h5⟩ := h4
        simp only [Bool.and_eq_true, Bool.or_eq_true, beq_iff_eq, Nat.blt_eq] at h5
        exact ⟨e, by simpa using he, h5.1, h5.2⟩
      · rename_i hb
        right
        simp only [Bool.and_eq_true, Bool.not_eq_true'] at h4
        refine ⟨by simpa using hb, h4.1, ?_⟩
        have h5 := h4.2
        rw [Bool.or_eq_true] at h5
        rcases h5 with h5 | h5
        · exact .inl (by rintro ⟨x, y⟩; rw [x, y] at h5; simp at h5)
        · rw [Bool.and_eq_true] at h5; exact .inr h5

theorem wpAny_of_TO2 {cl : Array Nat} (hc : chk2 ops loud cl = true) (hQ : ∀ c a w, ¬ Q (.panic c) a w) (hO : ¬ LetsOut Q) :
    ∀ (fuel : Nat) (r : List Nat) (listed : Array Bool) (a : Act) (w : World), r.Pairwise (· < ·) → (∀ j, j ∈ r ↔ j < ops.size ∧ listed.getD j true = false) → listed.size = ops.size →
      (∀ k, listed.getD k false = true → ∀ j, j < k → (cl.getD k 0).testBit j = true → listed.getD j false = true) → r.length ≤ fuel → Lp w → TO P rd ops Q Lp loud r a w →
      wpAnyIn (Fw rd) 0 P .any ops Q fuel listed a w := by
  have hgood : Good ops := ⟨fun i o hi => (chk2_spec hc hi).1⟩
  have hT : ∀ {listed : Array Bool} {j : Nat}, listed.size = ops.size → j < ops.size → listed.getD j true = listed.getD j false := by
    intro listed j hs hj
    simp [show j < listed.size by omega]
  -- whoever stands first is ready
  have hfirst : ∀ (i : Nat) (r : List Nat) (listed : Array Bool), (i :: r).Pairwise (· < ·) → (∀ j, j ∈ i :: r ↔ j < ops.size ∧ listed.getD j true = false) → listed.size = ops.size → i ∈ Region.ready .any ops listed := by
    intro i r listed hp hm hs
    obtain ⟨hi1, hi2⟩ := (hm i).1 (by simp)
    rw [mem_ready]
    have hoi : ops[i]? = some ops[i] := by simp [hi1]
    refine ⟨hi2, _, hoi, fun e he hb => ?_⟩
    have hlt := (chk2_spec hc hoi).2.1 e he hb
    rw [← hT hs (by omega)]
    cases hx : listed.getD e.on true with
    | true => rfl
    | false =>
      have := (hm e.on).2 ⟨by omega, hx⟩
      rcases List.mem_cons.1 this with h | h
      · omega
      · have := (List.pairwise_cons.1 hp).1 _ h; omega
  intro fuel
  induction fuel with
  | zero =>
    intro r listed a w hp hm hs hdc hlen hL h
    have hr : r = [] := List.length_eq_zero_iff.1 (by omega)
    subst hr
    refine ⟨?_, h⟩
    rw [List.eq_nil_iff_forall_not_mem]
    intro j hj
    obtain ⟨h1, o, ho, _⟩ := mem_ready.1 hj
    exact absurd ((hm j).2 ⟨(Array.getElem?_eq_some_iff.1 ho).1, h1⟩) (by simp)
  | succ fuel ih =>
    intro r listed a w hp hm hs hdc hlen hL h
    refine ⟨fun hn => ?_, fun i hi => ?_⟩
    · cases r with
      | nil => exact h
      | cons i r => exact absurd (hn ▸ hfirst i r listed hp hm hs) (by simp)
    · obtain ⟨h1, o, ho, hall⟩ := mem_ready.1 hi
      have hlt : i < ops.size := (Array.getElem?_eq_some_iff.1 ho).1
      have hir : i ∈ r := (hm i).2 ⟨hlt, h1⟩
      obtain ⟨pre, post, rfl⟩ := List.append_of_mem hir
      -- those ahead of it are independent
      have hind : ∀ j ∈ pre, ∃ oj, ops[j]? = some oj ∧ oj.apart ops o = true ∧ LL loud j i oj o := by
        intro j hj
        have hji : j < i := by
          rw [List.pairwise_append] at hp
          exact hp.2.2 j hj i (by simp)
        obtain ⟨_, hback, hcl⟩ := chk2_spec hc ho
        obtain ⟨oj, hoj, hcase⟩ := hcl j hji
        refine ⟨oj, hoj, ?_⟩
        rcases hcase with ⟨hb, e, he, hbi, hor⟩ | ⟨_, hap, hl⟩
        · exfalso
          have hun := ((hm j).1 (by simp [hj])).2
          have hel := hall e he hbi
          have hjl : listed.getD j false = true := by
            rcases hor with h' | h'
            · exact h' ▸ hel
            · exact hdc e.on hel j h'.1 h'.2
          rw [hT hs (by omega), hjl] at hun
          cases hun
        · exact ⟨hap, hl⟩
      have hfr := front2 hgood hQ hO ho pre post hind a w hL h
      have hp' : (pre ++ post).Pairwise (· < ·) := by
        rw [List.pairwise_append] at hp ⊢
        exact ⟨hp.1, (List.pairwise_cons.1 hp.2.1).2, fun x hx y hy => hp.2.2 x hx y (by simp [hy])⟩
      have hni : i ∉ pre ++ post := by
        rw [List.pairwise_append] at hp
        intro hmem
        rcases List.mem_append.1 hmem with h' | h'
        · have := hp.2.2 i h' i (by simp); omega
        · have := (List.pairwise_cons.1 hp.2.1).1 i h'; omega
      have hm' : ∀ j, j ∈ pre ++ post ↔ j < ops.size ∧ (listed.setIfInBounds i true).getD j true = false := by
        intro j
        by_cases hji : i = j
        · subst hji
          constructor
          · intro h'; exact absurd h' hni
          · rintro ⟨_, h'⟩
            simp [show i < listed.size by omega] at h'
        · rw [getD_set_ne true hji, ← hm j]
          simp only [List.mem_append, List.mem_cons]
          constructor
          · rintro (h' | h')
            · exact .inl h'
            · exact .inr (.inr h')
          · rintro (h' | h' | h')
            · exact .inl h'
            · exact absurd h'.symm hji
            · exact .inr h'
      have hs' : (listed.setIfInBounds i true).size = ops.size := by simp [hs]
      have hdc' : ∀ k, (listed.setIfInBounds i true).getD k false = true → ∀ j, j < k → (cl.getD k 0).testBit j = true → (listed.setIfInBounds i true).getD j false = true := by
        intro k hk j hjk hb
        by_cases hki : i = k
        · subst hki
          obtain ⟨_, _, hcl⟩ := chk2_spec hc ho
          obtain ⟨oj, hoj, hcase⟩ := hcl j hjk
          refine getD_set_true ?_
          rcases hcase with ⟨_, e, he, hbi, hor⟩ | ⟨hb0, _⟩
          · have hel := hall e he hbi
            rcases hor with h' | h'
            · exact h' ▸ hel
            · exact hdc e.on hel j h'.1 h'.2
          · rw [hb0] at hb; cases hb
        · rw [getD_set_ne false hki] at hk
          exact getD_set_true (hdc k hk j hjk hb)
      have hlen' : (pre ++ post).length ≤ fuel := by simp at hlen ⊢; omega
      have hIH : ∀ a' w', Lp w' → TO P rd ops Q Lp loud (pre ++ post) a' w' → wpAnyIn (Fw rd) 0 P .any ops Q fuel (listed.setIfInBounds i true) a' w' :=
        fun a' w' hL' ht => ih (pre ++ post) _ a' w' hp' hm' hs' hdc' hlen' hL' ht
      cases hl : loud i with
      | true =>
        rw [TO_loud ho hl] at hfr
        exact wpOpIn_mono (fun a' w' hk => hIH a' w' hk.1 hk.2) hfr
      | false =>
        rw [TO_quiet ho hl] at hfr
        obtain ⟨v, hv, ht⟩ := hfr
        have ht' := hIH _ _ hL ht
        unfold wpOpIn
        simp only [ho]
        split
        · rename_i hw
          refine ⟨fun _ _ => trivial, ?_⟩
          rw [Oper.semAt_eq _ _ _ (hgood.plain i o ho).1, hv.1 hw w hL]
          exact ht'
        · rename_i hw
          refine ⟨fun _ _ => trivial, ?_⟩
          rw [← hv.2 (by simpa using hw)]
          exact ht'

/-- A REGION THAT DRAWS ITS ORDER, by one walk in the order of its text. -/
theorem wp_draw2 {id : Nat} {p : Pst} {a : Act} {w : World} {cl : Array Nat} (hm : P.follows .mixedOrders = true) (hc : chk2 ops loud cl = true) (hL : Lp w.drew)
    (h : TO P rd ops p.Q Lp loud (List.range ops.size) a w.drew) : (Code.region id ops true).wpIn (Fw rd) 0 P p.Q a w := by
  refine wpIn_region_any hm ?_
  refine wpAny_of_TO2 (loud := loud) (Lp := Lp) hc (fun c a w h => h) (fun ⟨a, w, h⟩ => h) _ (List.range ops.size) _ a _ List.pairwise_lt_range ?_ (by simp) ?_ (by simp) hL h
  · intro j
    by_cases hj : j < ops.size <;> simp [hj]
  · intro k hk j hjk hb
    by_cases hk' : k < ops.size <;> simp [hk'] at hk
end region
theorem pn_drawGG {P : Program} {rd : Option Nat} {p : Pst} {C : Ctx} {E : Env} {H : Mem} {ops : Array Oper} {id : Nat} (q : List Nat) (M0 L0 : Mem) {n : Nat} (hn : ops.size = n) (hm : P.follows .mixedOrders = true) (hc : chk2 ops (ld ops q) (Region.before ops) = true)
    (hs : ∀ a, cnt a (M0 ++ L0) ≤ cnt a H) (h : TE P rd ops p q C L0 (line 0 n) E M0) : PN C (WP P rd (.region id ops true) p) E H :=
  pn_sp (M0 ++ L0) hs fun a w hr hw => by
    refine wp_draw2 hm hc hw.hp.right.drew ?_
    rw [hn, List.range_eq_range', ← TT_line]
    exact h a w.drew hr ⟨hw.fr.drew, hw.hp.drew⟩
theorem Rdb.blk {H : Mem} {i b cap : Nat} {tl : List Value} {t : TypeId} {fz : Nat × Nat} {ys : List UInt8} (hi : H[i]? = some (b, .cells (bcells ys ++ tl).toArray t fz)) (hc : ys.length ≤ cap) : Rdb H (.slice (some ⟨b, 0, none⟩) ys.length cap) ys :=
  .inr ⟨b, 0, cap, rfl, hc, fun w hw j u hj => by
    rw [cell_of hw (off := 0 + j) hi, Nat.zero_add, List.getElem?_toArray, List.getElem?_append_left (List.getElem?_eq_some_iff.1 hj).1]
    exact hj⟩
end Go.Mv

namespace Go.Mv
open Go Go.Proofs
section te
variable {P : Program} {rd : Option Nat} {ops : Array Oper} {p : Pst} {q : List Nat} {C : Ctx} {L M : Mem} {k : Nat} {tr : Tr} {E : Env}
variable {d : Nat} {ty : TypeId} {ps : String} {af : Array Edge} {g : Option (Nat × Bool)} {v : Value} {x y z : Operand}
theorem qm (h0 : (ops[k]?, ld ops q k, evalE E x, Nat.blt d C.N) = (some ⟨some d, .move x, ty, ps, af, none⟩, false, some v, true)) (h : TE P rd ops p q C L tr ((d, v) :: E) M) : TE P rd ops p q C L (.op k tr) E M := by
  simp only [Prod.mk.injEq] at h0
  exact TE_q h0.1 h0.2.1 (RD.move h0.2.2.1) h0.2.2.2 h
theorem qa (h0 : (ops[k]?, ld ops q k, evalE E x, Nat.blt d C.N) = (some ⟨some d, .assign x, ty, ps, af, none⟩, false, some v, true)) (h : TE P rd ops p q C L tr ((d, v) :: E) M) : TE P rd ops p q C L (.op k tr) E M := by
  simp only [Prod.mk.injEq] at h0
  exact TE_q h0.1 h0.2.1 (RD.assign h0.2.2.1) h0.2.2.2 h
theorem qe {vs : Array Value} {i : Nat} (h0 : (ops[k]?, ld ops q k, evalE E x, vs[i]?, Nat.blt d C.N) = (some ⟨some d, .extract x i, ty, ps, af, none⟩, false, some (.tuple vs), some v, true)) (h : TE P rd ops p q C L tr ((d, v) :: E) M) : TE P rd ops p q C L (.op k tr) E M := by
  simp only [Prod.mk.injEq] at h0
  exact TE_q h0.1 h0.2.1 (RD.extract h0.2.2.1 h0.2.2.2.1) h0.2.2.2.2 h
theorem qT (h0 : (ops[k]?, ld ops q k, evalE E z, evalE E x, Nat.blt d C.N) = (some ⟨some d, .pick z x y, ty, ps, af, none⟩, false, some (.bool true), some v, true)) (h : TE P rd ops p q C L tr ((d, v) :: E) M) : TE P rd ops p q C L (.op k tr) E M := by
  simp only [Prod.mk.injEq] at h0
  exact TE_q h0.1 h0.2.1 (RD.pickT h0.2.2.1 h0.2.2.2.1) h0.2.2.2.2 h
theorem qF (h0 : (ops[k]?, ld ops q k, evalE E z, evalE E y, Nat.blt d C.N) = (some ⟨some d, .pick z x y, ty, ps, af, none⟩, false, some (.bool false), some v, true)) (h : TE P rd ops p q C L tr ((d, v) :: E) M) : TE P rd ops p q C L (.op k tr) E M := by
  simp only [Prod.mk.injEq] at h0
  exact TE_q h0.1 h0.2.1 (RD.pickF h0.2.2.1 h0.2.2.2.1) h0.2.2.2.2 h
theorem qn {a : Addr} (h0 : (ops[k]?, ld ops q k, evalE E x, Nat.blt d C.N) = (some ⟨some d, .nilCheck x, ty, ps, af, none⟩, false, some (.pointer (some a)), true)) (h : TE P rd ops p q C L tr ((d, .pointer (some a)) :: E) M) : TE P rd ops p q C L (.op k tr) E M := by
  simp only [Prod.mk.injEq] at h0
  exact TE_q h0.1 h0.2.1 (RD.nilCheckP h0.2.2.1) h0.2.2.2 h
theorem qg {j t : Nat} {b : Bool} (h0 : (ops[k]?, (ops[j]?).bind (·.dst), E.get t, ld ops q k, evalE E x, Nat.blt d C.N) = (some ⟨some d, .move x, ty, ps, af, some (j, b)⟩, some t, some (.bool b), false, some v, true)) (h : TE P rd ops p q C L tr ((d, v) :: E) M) : TE P rd ops p q C L (.op k tr) E M := by
  simp only [Prod.mk.injEq] at h0
  exact TE_gq h0.1 h0.2.1 h0.2.2.1 h0.2.2.2.1 (RD.move h0.2.2.2.2.1) h0.2.2.2.2.2 h
theorem qs {op : Op} {j t : Nat} {b b' : Bool} (h0 : (ops[k]?, (ops[j]?).bind (·.dst), E.get t, (b' == b), Nat.blt d C.N) = (some ⟨some d, op, ty, ps, af, some (j, b)⟩, some t, some (.bool b'), false, true)) (h : TE P rd ops p q C L tr ((d, undef) :: E) M) : TE P rd ops p q C L (.op k tr) E M := by
  simp only [Prod.mk.injEq] at h0
  exact TE_s h0.1 h0.2.1 h0.2.2.1 h0.2.2.2.1 h0.2.2.2.2 h
/-- Any quiet one, by its law. -/
theorem qq {op : Op} (h0 : (ops[k]?, ld ops q k, Nat.blt d C.N) = (some ⟨some d, op, ty, ps, af, none⟩, false, true)) (hv : RD P op ty E L v) (h : TE P rd ops p q C L tr ((d, v) :: E) M) : TE P rd ops p q C L (.op k tr) E M := by
  simp only [Prod.mk.injEq] at h0
  exact TE_q h0.1 h0.2.1 hv h0.2.2 h
/-- A loud reading. -/
theorem ql {op : Op} (h0 : (ops[k]?, ld ops q k, notDefer op, Nat.blt d C.N) = (some ⟨some d, op, ty, ps, af, g⟩, true, true, true)) (hv : RD P op ty E (M ++ L) v) (h : TE P rd ops p q C L tr ((d, v) :: E) M) (hg : GOK ops E g := by first | exact trivial | exact ⟨_, rfl, rfl⟩) : TE P rd ops p q C L (.op k tr) E M := by
  simp only [Prod.mk.injEq] at h0
  exact TE_l h0.1 h0.2.1 hg h0.2.2.1 hv h0.2.2.2 h
theorem n0 (h : PN C p.n E M) : TE P rd ops p q C [] .nil E M := TE_nil0 h
theorem tsp (M' : Mem) (h : TE P rd ops p q C L tr E M') (hc : ∀ a, cnt a (M' ++ L) ≤ cnt a (M ++ L) := by intro a; simp -failIfUnchanged <;> omega) : TE P rd ops p q C L tr E M := TE_sp M' hc h
/-- A call that reads alone. -/
theorem cG {f : Operand} {xs : Array Operand} {ats : Array TypeId} {fid : FuncId} {fs cap : Array Value} {vs : List Value} {post : Value → Mem → Prop} (h0 : (ops[k]?, ld ops q k, evalE E f, evalL E xs.toList, Nat.blt d C.N) = (some ⟨some d, .call ⟨.value f, xs, ats⟩, ty, ps, af, g⟩, true, some (.func (.func fid) fs cap), some vs, true))
    (hen : ∀ args w, (callFunc fid args).run P w = .ok (.enter fid args) w)
    (hc : ∀ w, Hp (M ++ L) w → Calls P fid (fs.toList ++ vs ++ cap.toList).toArray w (Ret w [] post))
    (h : ∀ v H1, post v H1 → (∀ e ∈ H1, C.w0.heap.size ≤ e.1) → TE P rd ops p q C L tr ((d, v) :: E) (H1 ++ M)) (hg : GOK ops E g := by first | exact trivial | exact ⟨_, rfl, rfl⟩) : TE P rd ops p q C L (.op k tr) E M := by
  simp only [Prod.mk.injEq] at h0
  exact TE_callG post (M ++ L) h0.1 h0.2.1 hg hen h0.2.2.1 h0.2.2.2.1 h0.2.2.2.2 hc (fun _ => Nat.le_refl _) h
/-- A call that turns the blocks of R. -/
theorem cM {f : Operand} {xs : Array Operand} {ats : Array TypeId} {fid : FuncId} {fs cap : Array Value} {vs : List Value} {post : Value → Mem → Prop} (R A : Mem) (h0 : (ops[k]?, ld ops q k, evalE E f, evalL E xs.toList, Nat.blt d C.N) = (some ⟨some d, .call ⟨.value f, xs, ats⟩, ty, ps, af, g⟩, true, some (.func (.func fid) fs cap), some vs, true))
    (hen : ∀ args w, (callFunc fid args).run P w = .ok (.enter fid args) w) (hX : ∀ e ∈ R, C.w0.heap.size ≤ e.1 ∨ e.1 ∈ C.X)
    (hc : ∀ w, Hp (A ++ R ++ L) w → Calls P fid (fs.toList ++ vs ++ cap.toList).toArray w (Ret w (keys R) post))
    (h : ∀ v H1, post v H1 → (∀ e ∈ H1, C.w0.heap.size ≤ e.1 ∨ e.1 ∈ C.X) → TE P rd ops p q C L tr ((d, v) :: E) (A ++ H1)) (hM : ∀ a, cnt a (A ++ R) ≤ cnt a M := by intro a; simp -failIfUnchanged <;> omega) (hg : GOK ops E g := by first | exact trivial | exact ⟨_, rfl, rfl⟩) : TE P rd ops p q C L (.op k tr) E M := by
  simp only [Prod.mk.injEq] at h0
  exact TE_callM post R A (A ++ R ++ L) h0.1 h0.2.1 hg hen h0.2.2.1 h0.2.2.2.1 h0.2.2.2.2 hX hM hc (fun _ => Nat.le_refl _) h
end te
section code
variable {P : Program} {rd : Option Nat} {p : Pst} {C : Ctx} {E : Env} {H : Mem} {ops : Array Oper} {id : Nat}
theorem sq {c1 c2 : Code} (h : PN C (WP P rd c1 { p with n := WP P rd c2 p }) E H) : PN C (WP P rd (c1.seq c2) p) E H := pn_seq h
theorem pl (h : TE P rd ops p [] C [] (line 0 ops.size) E H) : PN C (WP P rd (.region id ops false) p) E H := pn_plain [] rfl h
theorem rt (h : PN C p.r E H) : PN C (WP P rd .ret p) E H := pn_ret h
theorem sk (h : PN C p.n E H) : PN C (WP P rd .skip p) E H := pn_skip h
theorem xt {i : Nat} (h : PN C (p.x i) E H) : PN C (WP P rd (.exit i) p) E H := pn_exit h
theorem psp {K : Act → World → Prop} (H' : Mem) (h : PN C K E H') (hc : ∀ a, cnt a H' ≤ cnt a H := by intro a; simp -failIfUnchanged <;> omega) : PN C K E H := pn_sp H' hc h
theorem plG (q : List Nat) (M0 : Mem) (h : TE P rd ops p q C [] (line 0 ops.size) E M0) (hc : ∀ a, cnt a M0 ≤ cnt a H := by intro a; simp -failIfUnchanged <;> omega) : PN C (WP P rd (.region id ops false) p) E H := pn_plainG q M0 rfl hc h
theorem dG (q : List Nat) (M0 L0 : Mem) (h : TE P rd ops p q C L0 (line 0 ops.size) E M0) (hm : P.follows .mixedOrders = true := by rfl) (hc : chk ops (ld ops q) (Region.before ops) = true := by kernel_rfl) (hs : ∀ a, cnt a (M0 ++ L0) ≤ cnt a H := by intro a; simp -failIfUnchanged <;> omega) : PN C (WP P rd (.region id ops true) p) E H := pn_drawG q M0 L0 rfl hm hc hs h
theorem dS {fn : Func} {post : Value → Mem → Prop} {X : List Nat} {N : Nat} {w : World} {l : List ResultVar} {vs : List Value} (H1 : Mem) (hl : fn.results = l.toArray) (hv : resE E l = some vs) (hp : post (tupV vs) H1) (hn : ∀ e ∈ H1, w.heap.size ≤ e.1 ∨ e.1 ∈ X) (hc : ∀ a, cnt a H1 ≤ cnt a H := by intro a; simp -failIfUnchanged <;> omega) : PN ⟨N, [], w, X⟩ (retP P fn (Ret w X post)) E H := pn_doneS H1 hl hv hp hc hn
theorem agS {σ : Type} {EE : σ → Env} {HH : σ → Mem} {I : σ → Prop} {μ : σ → Nat} {n : Nat} (s' : σ) (hI : I s') (hm : μ s' < n) (hE : Keeps E (EE s')) (hc : ∀ a, cnt a (HH s') ≤ cnt a H := by intro a; simp -failIfUnchanged <;> omega) : PN C (fun a w => ∃ s', I s' ∧ μ s' < n ∧ Rep C.N C.ds (EE s') a ∧ St C.w0 C.X (HH s') w) E H := pn_againS s' hI hm hE hc
theorem lpS {σ : Type} {c : Code} (EE : σ → Env) (HH : σ → Mem) (I : σ → Prop) (μ : σ → Nat) (s0 : σ) (h0 : I s0) (hE : Keeps E (EE s0))
    (h : ∀ s, I s → PN C (WP P rd c { p with n := fun a w => ∃ s', I s' ∧ μ s' < μ s ∧ Rep C.N C.ds (EE s') a ∧ St C.w0 C.X (HH s') w }) (EE s) (HH s)) (hH : ∀ a, cnt a (HH s0) ≤ cnt a H := by intro a; simp -failIfUnchanged <;> omega) :
    PN C (WP P rd (.loop c) p) E H := pn_loopS EE HH I μ s0 h0 hE hH h
end code
theorem oL {A B : Mem} {Q : Nat × Obj → Prop} (h : ∀ e ∈ A ++ B, Q e) : ∀ e ∈ A, Q e := fun e he => h e (List.mem_append_left _ he)
theorem oR {A B : Mem} {Q : Nat × Obj → Prop} (h : ∀ e ∈ A ++ B, Q e) : ∀ e ∈ B, Q e := fun e he => h e (List.mem_append_right _ he)
theorem oC {a : Nat × Obj} {B : Mem} {Q : Nat × Obj → Prop} (h : ∀ e ∈ a :: B, Q e) : ∀ e ∈ B, Q e := fun e he => h e (List.mem_cons_of_mem _ he)
theorem sb {A B : Mem} (hc : ∀ a, cnt a B ≤ cnt a A := by intro a; simp -failIfUnchanged <;> omega) : ∀ w, Hp A w → Hp B w := fun _ h => h.sp hc
theorem Hp.s {A B : Mem} {w : World} (h : Hp A w) (hc : ∀ a, cnt a B ≤ cnt a A := by intro a; simp -failIfUnchanged <;> omega) : Hp B w := h.sp hc
theorem Rdb.s {H H' : Mem} {v : Value} {ys : List UInt8} (h : Rdb H v ys) (hc : ∀ a, cnt a H ≤ cnt a H' := by intro a; simp -failIfUnchanged <;> omega) : Rdb H' v ys := h.mono fun _ hw => hw.sp hc
theorem Rdx.s {α : Type} {sz : Nat} {enc : α → List Value} {H H' : Mem} {v : Value} {xs : List α} (h : Rdx sz enc H v xs) (hc : ∀ a, cnt a H ≤ cnt a H' := by intro a; simp -failIfUnchanged <;> omega) : Rdx sz enc H' v xs := h.mono fun _ hw => hw.sp hc
theorem BytesIn.s {H H' : Mem} {v : Value} {ys : List UInt8} (h : BytesIn H v ys) (hc : ∀ a, cnt a H ≤ cnt a H' := by intro a; simp -failIfUnchanged <;> omega) : BytesIn H' v ys := h.mono fun _ hw => hw.sp hc
end Go.Mv

namespace Go.Mv
open Go Go.Proofs
section te
variable {P : Program} {rd : Option Nat} {ops : Array Oper} {p : Pst} {q : List Nat} {C : Ctx} {L M : Mem} {k : Nat} {tr : Tr} {E : Env}
variable {d : Nat} {ty : TypeId} {ps : String} {af : Array Edge} {g : Option (Nat × Bool)}
/-- A call of a function for which the model stands in, that lays one block. -/
theorem TE_callX {f : Operand} {xs : Array Operand} {ats : Array TypeId} {fid : FuncId} {vs : List Value} {obj : Obj} {vf : Nat → Value} (ho : ops[k]? = some ⟨some d, .call ⟨.value f, xs, ats⟩, ty, ps, af, g⟩) (hl : ld ops q k = true) (hg : GOK ops E g) (hf : evalE E f = some (.func (.func fid) #[] #[])) (ha : evalL E xs.toList = some vs) (hd : Nat.blt d C.N = true)
    (hr : ∀ w, Hp (M ++ L) w → (callFunc fid vs.toArray).run P w = .ok (.value (vf w.heap.size)) (w.alloc obj))
    (h : ∀ b, C.w0.heap.size ≤ b → TE P rd ops p q C L tr ((d, vf b) :: E) ((b, obj) :: M)) : TE P rd ops p q C L (.op k tr) E M :=
  TE_new ho hl hg rfl (fun ρ w _ _ _ _ hρ hH => by
    have e : xs.map ρ = vs.toArray := by apply Array.toList_inj.1; simpa using evalL_map hρ _ _ ha
    have h := hr w hH
    simp only [execOp, resolve, hρ _ _ hf, e, Deferred.ofValue]
    simp only [Sem.run_bind, Sem.run_pure, Result.andThen_ok, invoke]
    simpa using h) hd h
end te
section rd
variable {P : Program} {ty : TypeId} {E : Env} {L : Mem} {x y z : Operand} {T U key elem : TypeId}
theorem RD.map_eql_nil {a : Option Nat} (hT : P.underlying T = some (.map key elem)) (hx : evalE E x = some (.map a)) (hy : evalE E y = some (.map none)) : RD P (.binOp .eql T x y U) ty E L (.bool a.isNone) :=
  RD.bin .eql (fun w => run_eql_of (by cases a <;> rfl) (by cases a <;> rfl) (fun d => by cases a <;> simp [Op.equalIn, run_underlying hT])) hx hy
theorem RD.mkIfaceM {a : Option Nat} (hT : P.underlying T = some (.map key elem)) (hx : evalE E x = some (.map a)) : RD P (.makeInterface T x) ty E L (.iface T (.map a)) := RD.mkIface hT (fun _ h => nomatch h) hx
theorem RD.assertM {a : Option Nat} {xT : TypeId} (hT : P.underlying T = some (.map key elem)) (hx : evalE E x = some (.iface T (.map a))) : RD P (.typeAssert x xT T false) ty E L (.map a) := fun ρ w _ _ _ _ hρ _ => by
  simp [execOp, hρ _ _ hx, Instr.typeAssert, run_underlying hT, go_sem, Result.andThen]
end rd
end Go.Mv
