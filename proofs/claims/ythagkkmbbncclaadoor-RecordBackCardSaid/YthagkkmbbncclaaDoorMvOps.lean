import Derived.Test.YthagkkmbbncclaaDoorMvEnv
import Derived.Shelf.Abstract
namespace Go.Mv
open Go

/-- Which operations are walked in their order: all but pure ones and those said to be quiet. -/
def ld (ops : Array Oper) (q : List Nat) (k : Nat) : Bool :=
  match ops[k]? with
  | none => true
  | some o =>
    match o.op with
    | .move _ | .assign _ | .pick .. | .build .. | .binOp .. | .unOp .. | .fieldAddr .. | .field .. | .indexAddr .. | .index .. | .extract .. | .nilCheck _ | .makeInterface .. | .makeFunc .. | .slice .. | .typeAssert .. => false
    | .load .. | .convert .. | .call _ | .lookup .. => !(q.any fun j => Nat.beq j k)
    | _ => true

def notDefer : Op → Bool
  | .defer _ => false
  | _ => true

theorem notDefer_ne {op : Op} (h : notDefer op = true) : ∀ c, op ≠ .defer c := fun c e => by rw [e] at h; simp [notDefer] at h

/-- A region from operation k on, m operations. -/
def TE (P : Program) (rd : Option Nat) (ops : Array Oper) (p : Pst) (q : List Nat) (C : Ctx) (L : Mem) (tr : Tr) (E : Env) (M : Mem) : Prop :=
  PN C (fun a w => TT P rd ops p.Q (Hp L) (ld ops q) tr a w) E (M ++ L)

/-- A reading: what it comes to in whatever world holds L. -/
def RD (P : Program) (op : Op) (ty : TypeId) (E : Env) (L : Mem) (v : Value) : Prop :=
  ∀ (ρ : Operand → Value) (w : World) (dst : Option Tmp) (pos : String) (af : Array Edge) (g : Option (Nat × Bool)),
    (∀ x u, evalE E x = some u → ρ x = u) → Hp L w → (execOp ρ ⟨dst, op, ty, pos, af, g⟩).run P w = .ok (.value v) w

section te
variable {P : Program} {rd : Option Nat} {ops : Array Oper} {p : Pst} {q : List Nat} {C : Ctx} {L M : Mem} {k : Nat} {tr : Tr} {E : Env}
variable {dst : Option Tmp} {d : Nat} {op : Op} {ty : TypeId} {ps : String} {af : Array Edge} {v : Value}

theorem TE_intro (h : ∀ a w, Rep C.N C.ds E a → St C.w0 C.X (M ++ L) w → TT P rd ops p.Q (Hp L) (ld ops q) tr a w) : TE P rd ops p q C L tr E M := h

theorem TE_nil (h : PN C p.n E (M ++ L)) : TE P rd ops p q C L .nil E M := h

theorem TE_nil0 (h : PN C p.n E M) : TE P rd ops p q C [] .nil E M := by
  unfold TE; rw [List.append_nil]; exact h

theorem wanted_none {o : Oper} {y : Nat → Option Bool} (h : o.guard = none) : Region.wanted o y = true := by simp [Region.wanted, h]

theorem TE_q (ho : ops[k]? = some ⟨some d, op, ty, ps, af, none⟩) (hl : ld ops q k = false) (hv : RD P op ty E L v) (hd : Nat.blt d C.N = true) (h : TE P rd ops p q C L tr ((d, v) :: E) M) :
    TE P rd ops p q C L (.op k tr) E M := TE_intro fun a w hr hs => by
  rw [TT_op, TS_quiet ho hl]
  refine ⟨v, ⟨fun _ w' hL => hv a.eval w' _ _ _ _ (fun x u hu => hr.eval hu) hL, fun hw => by rw [wanted_none rfl] at hw; cases hw⟩, ?_⟩
  exact h _ _ (hr.put (by simpa using hd) v) hs

theorem yielded_of {E : Env} {N : Nat} {ds : List Deferred} {a : Act} (hr : Rep N ds E a) {j t : Nat} {b : Bool} (hj : (ops[j]?).bind (·.dst) = some t) (hb : E.get t = some (.bool b)) : yielded ops a.tmps j = some b := by
  simp [yielded, hj, hr.get t _ hb]

/-- A guarded one that is carried out. -/
theorem TE_gq {j t : Nat} {b : Bool} (ho : ops[k]? = some ⟨some d, op, ty, ps, af, some (j, b)⟩) (hj : (ops[j]?).bind (·.dst) = some t) (hb : E.get t = some (.bool b)) (hl : ld ops q k = false) (hv : RD P op ty E L v)
    (hd : Nat.blt d C.N = true) (h : TE P rd ops p q C L tr ((d, v) :: E) M) :
    TE P rd ops p q C L (.op k tr) E M := TE_intro fun a w hr hs => by
  rw [TT_op, TS_quiet ho hl]
  have hy := yielded_of hr hj hb
  refine ⟨v, ⟨fun _ w' hL => hv a.eval w' _ _ _ _ (fun x u hu => hr.eval hu) hL, fun hw => by simp [Region.wanted, hy] at hw⟩, ?_⟩
  exact h _ _ (hr.put (by simpa using hd) v) hs

theorem wpOpIn_skip {o : Oper} {K : Act → World → Prop} {Q : Exit → Act → World → Prop} {a : Act} {w : World} (ho : ops[k]? = some o) (hw : Region.wanted o (yielded ops a.tmps) = false) (h : K (a.put o.dst undef) w) :
    wpOpIn (Fw rd) 0 P ops Q k K a w := by
  unfold wpOpIn
  simp only [ho, hw]
  exact ⟨fun _ _ => trivial, h⟩

/-- A guarded one that is passed over (quiet or loud). -/
theorem TE_s {j t : Nat} {b b' : Bool} (ho : ops[k]? = some ⟨some d, op, ty, ps, af, some (j, b)⟩) (hj : (ops[j]?).bind (·.dst) = some t) (hb : E.get t = some (.bool b')) (hne : (b' == b) = false)
    (hd : Nat.blt d C.N = true) (h : TE P rd ops p q C L tr ((d, undef) :: E) M) :
    TE P rd ops p q C L (.op k tr) E M := TE_intro fun a w hr hs => by
  have hy := yielded_of hr hj hb
  have hw : Region.wanted ⟨some d, op, ty, ps, af, some (j, b)⟩ (yielded ops a.tmps) = false := by
    simp [Region.wanted, hy]; intro h; subst h; simp at hne
  rw [TT_op]
  have hn := h _ _ (hr.put (by simpa using hd) undef) hs
  cases hl : ld ops q k with
  | false =>
    rw [TS_quiet ho hl]
    exact ⟨undef, ⟨fun hw' => (by rw [hw] at hw'; cases hw'), fun _ => rfl⟩, hn⟩
  | true =>
    rw [TS_loud ho hl]
    exact wpOpIn_skip ho hw ⟨hs.hp.right, hn⟩

theorem TE_s0 {j t : Nat} {b b' : Bool} (ho : ops[k]? = some ⟨none, op, ty, ps, af, some (j, b)⟩) (hj : (ops[j]?).bind (·.dst) = some t) (hb : E.get t = some (.bool b')) (hne : (b' == b) = false)
    (h : TE P rd ops p q C L tr E M) : TE P rd ops p q C L (.op k tr) E M := TE_intro fun a w hr hs => by
  have hy := yielded_of hr hj hb
  have hw : Region.wanted ⟨none, op, ty, ps, af, some (j, b)⟩ (yielded ops a.tmps) = false := by
    simp [Region.wanted, hy]; intro h; subst h; simp at hne
  rw [TT_op]
  have hn := h _ _ hr hs
  cases hl : ld ops q k with
  | false =>
    rw [TS_quiet ho hl]
    exact ⟨undef, ⟨fun hw' => (by rw [hw] at hw'; cases hw'), fun _ => rfl⟩, hn⟩
  | true =>
    rw [TS_loud ho hl]
    exact wpOpIn_skip ho hw ⟨hs.hp.right, hn⟩

/-- The guard's own source was passed over. -/
theorem TE_su {j t : Nat} {b : Bool} (ho : ops[k]? = some ⟨some d, op, ty, ps, af, some (j, b)⟩) (hj : (ops[j]?).bind (·.dst) = some t) (hb : E.get t = some undef)
    (hd : Nat.blt d C.N = true) (h : TE P rd ops p q C L tr ((d, undef) :: E) M) :
    TE P rd ops p q C L (.op k tr) E M := TE_intro fun a w hr hs => by
  have hy : yielded ops a.tmps j = none := by simp [yielded, hj, hr.get t _ hb, undef]
  have hw : Region.wanted ⟨some d, op, ty, ps, af, some (j, b)⟩ (yielded ops a.tmps) = false := by
    simp [Region.wanted, hy]
  have hn := h _ _ (hr.put (by simpa using hd) undef) hs
  rw [TT_op]
  cases hl : ld ops q k with
  | false =>
    rw [TS_quiet ho hl]
    exact ⟨undef, ⟨fun hw' => (by rw [hw] at hw'; cases hw'), fun _ => rfl⟩, hn⟩
  | true =>
    rw [TS_loud ho hl]
    exact wpOpIn_skip ho hw ⟨hs.hp.right, hn⟩

/-- Is the operation's guard met? -/
def GOK (ops : Array Oper) (E : Env) : Option (Nat × Bool) → Prop
  | none => True
  | some (j, b) => ∃ t, (ops[j]?).bind (·.dst) = some t ∧ E.get t = some (.bool b)

theorem GOK.wanted {N : Nat} {ds : List Deferred} {a : Act} {o : Oper} (h : GOK ops E o.guard) (hr : Rep N ds E a) : Region.wanted o (yielded ops a.tmps) = true := by
  unfold Region.wanted
  cases hg : o.guard with
  | none => rfl
  | some jb =>
    obtain ⟨j, b⟩ := jb
    rw [hg] at h
    obtain ⟨t, hj, hb⟩ := h
    simp [yielded_of hr hj hb]

/-- The general rule of a loud operation. -/
theorem TE_loud {g : Option (Nat × Bool)} (ho : ops[k]? = some ⟨dst, op, ty, ps, af, g⟩) (hl : ld ops q k = true) (hg : GOK ops E g) (hnd : notDefer op = true)
    (h : ∀ a w, Rep C.N C.ds E a → St C.w0 C.X (M ++ L) w →
      Oper.uponIn (Fw rd) 0 P ⟨dst, op, ty, ps, af, g⟩ a (fun a' w' => Hp L w' ∧ TT P rd ops p.Q (Hp L) (ld ops q) tr a' w') p.Q ((execOp a.eval ⟨dst, op, ty, ps, af, g⟩).run P w)) :
    TE P rd ops p q C L (.op k tr) E M := TE_intro fun a w hr hs => by
  rw [TT_op, TS_loud ho hl]
  unfold wpOpIn
  simp only [ho]
  have hw : Region.wanted (⟨dst, op, ty, ps, af, g⟩ : Oper) (yielded ops a.tmps) = true := GOK.wanted (o := ⟨dst, op, ty, ps, af, g⟩) hg hr
  rw [if_pos hw]
  refine ⟨fun _ _ => trivial, ?_⟩
  rw [Oper.semAt_eq _ _ _ (notDefer_ne hnd)]
  exact h a w hr hs

/-- A loud reading. -/
theorem TE_l {g : Option (Nat × Bool)} (ho : ops[k]? = some ⟨some d, op, ty, ps, af, g⟩) (hl : ld ops q k = true) (hg : GOK ops E g) (hnd : notDefer op = true) (hv : RD P op ty E (M ++ L) v) (hd : Nat.blt d C.N = true)
    (h : TE P rd ops p q C L tr ((d, v) :: E) M) : TE P rd ops p q C L (.op k tr) E M :=
  TE_loud ho hl hg hnd fun a w hr hs => by
    rw [hv a.eval w _ _ _ _ (fun x u hu => hr.eval hu) hs.hp]
    exact ⟨hs.hp.right, h _ _ (hr.put (by simpa using hd) v) hs⟩

/-- A test that is parted. -/
theorem TE_bool {b : Bool} (ht : b = true → TE P rd ops p q C L tr ((d, .bool true) :: E) M) (hf : b = false → TE P rd ops p q C L tr ((d, .bool false) :: E) M) : TE P rd ops p q C L tr ((d, .bool b) :: E) M := by
  cases b with
  | true => exact ht rfl
  | false => exact hf rfl

/-- What a new block is known by. -/
theorem St.new {w0 w : World} {X : List Nat} {H : Mem} (h : St w0 X H w) (o : Obj) : St w0 X ((w.heap.size, o) :: H) (w.alloc o) := by
  refine ⟨h.fr.alloc o, ?_, ?_⟩
  · intro e he
    rcases List.mem_cons.1 he with rfl | he
    · exact heap_alloc_new w o
    · exact (RowKit.Below.heap_alloc w o e.1 (h.hp.lt he)).trans (h.hp.at_ e he)
  · exact List.pairwise_cons.2 ⟨fun e he => by have := h.hp.lt he; simp only [ne_eq]; omega, h.hp.ne⟩

/-- The general rule of an operation that lays one new block. -/
theorem TE_new {g : Option (Nat × Bool)} {obj : Obj} {vf : Nat → Value} (ho : ops[k]? = some ⟨some d, op, ty, ps, af, g⟩) (hl : ld ops q k = true) (hg : GOK ops E g) (hnd : notDefer op = true)
    (hrun : ∀ (ρ : Operand → Value) (w : World) dst pos af g, (∀ x u, evalE E x = some u → ρ x = u) → Hp (M ++ L) w → (execOp ρ ⟨dst, op, ty, pos, af, g⟩).run P w = .ok (.value (vf w.heap.size)) (w.alloc obj))
    (hd : Nat.blt d C.N = true) (h : ∀ b, C.w0.heap.size ≤ b → TE P rd ops p q C L tr ((d, vf b) :: E) ((b, obj) :: M)) : TE P rd ops p q C L (.op k tr) E M :=
  TE_loud ho hl hg hnd fun a w hr hs => by
    rw [hrun a.eval w _ _ _ _ (fun x u hu => hr.eval hu) hs.hp]
    have hn : St C.w0 C.X ((w.heap.size, obj) :: (M ++ L)) (w.alloc obj) := hs.new obj
    exact ⟨hn.hp.sub (List.sublist_append_right ((w.heap.size, obj) :: M) L), h w.heap.size hs.fr.size _ _ (hr.put (by simpa using hd) _) hn⟩

theorem TE_alloc {g : Option (Nat × Bool)} {T : TypeId} {z : Value} (ho : ops[k]? = some ⟨some d, .alloc T, ty, ps, af, g⟩) (hz : ∀ w, (zeroValue T).run P w = .ok z w) (hg : GOK ops E g) (hd : Nat.blt d C.N = true)
    (h : ∀ b, C.w0.heap.size ≤ b → TE P rd ops p q C L tr ((d, .pointer (some ⟨b, 0, none⟩)) :: E) ((b, .cells z.cells T) :: M)) : TE P rd ops p q C L (.op k tr) E M :=
  TE_new (vf := fun b => .pointer (some ⟨b, 0, none⟩)) ho (by simp [ld, ho]) hg rfl (fun ρ w _ _ _ _ _ _ => by
    simp [execOp, Instr.alloc, newVar, newRow, hz]) hd h

theorem TE_box {g : Option (Nat × Bool)} {T : TypeId} {x : Operand} {u : Value} (ho : ops[k]? = some ⟨some d, .box T x, ty, ps, af, g⟩) (hx : evalE E x = some u) (hg : GOK ops E g) (hd : Nat.blt d C.N = true)
    (h : ∀ b, C.w0.heap.size ≤ b → TE P rd ops p q C L tr ((d, .pointer (some ⟨b, 0, none⟩)) :: E) ((b, .cells u.cells T) :: M)) : TE P rd ops p q C L (.op k tr) E M :=
  TE_new (vf := fun b => .pointer (some ⟨b, 0, none⟩)) ho (by simp [ld, ho]) hg rfl (fun ρ w _ _ _ _ hρ _ => by
    simp [execOp, Instr.box, newVar, newRow, hρ _ _ hx]) hd h
end te

/-- Two orders. -/
theorem TE_fork {P : Program} {rd : Option Nat} {ops : Array Oper} {p : Pst} {q : List Nat} {C : Ctx} {L M : Mem} {E : Env} {s tr : Tr} (h1 : TE P rd ops p q C L s E M) (h2 : TE P rd ops p q C L tr E M) : TE P rd ops p q C L (.fork s tr) E M :=
  fun a w hr hs => ⟨h1 a w hr hs, h2 a w hr hs⟩

/-! ### Regions as code -/
section code
variable {P : Program} {rd : Option Nat} {p : Pst} {C : Ctx} {E : Env} {H : Mem} {ops : Array Oper} {id : Nat}

theorem wpOps_of_TO {Q : Exit → Act → World → Prop} {Lp : World → Prop} {loud : Nat → Bool} (hnd : ∀ (i : Nat) (o : Oper), ops[i]? = some o → loud i = false → ∀ c, o.op ≠ .defer c) : ∀ (l : List Nat) (a : Act) (w : World), Lp w →
    TO P rd ops Q Lp loud l a w → wpOpsIn (Fw rd) 0 P ops Q l a w
  | [], a, w, _, h => h
  | i :: l, a, w, hL, h => by
    rw [wpOpsIn_cons]
    cases hi : ops[i]? with
    | none => simp [TO, hi] at h
    | some o =>
      cases hl : loud i with
      | true =>
        rw [TO_loud hi hl] at h
        exact wpOpIn_mono (fun a w hk => wpOps_of_TO hnd l a w hk.1 hk.2) h
      | false =>
        rw [TO_quiet hi hl] at h
        obtain ⟨v, hv, ht⟩ := h
        have ht' := wpOps_of_TO hnd l _ _ hL ht
        unfold wpOpIn
        simp only [hi]
        split
        · rename_i hw
          refine ⟨fun _ _ => trivial, ?_⟩
          rw [Oper.semAt_eq _ _ _ (hnd i o hi hl), hv.1 hw w hL]
          exact ht'
        · rename_i hw
          refine ⟨fun _ _ => trivial, ?_⟩
          rw [← hv.2 (by simpa using hw)]
          exact ht'

theorem ld_defer {q : List Nat} (i : Nat) (o : Oper) (hi : ops[i]? = some o) (hl : ld ops q i = false) : ∀ c, o.op ≠ .defer c := fun c e => by
  simp [ld, hi, e] at hl

theorem pn_plain (q : List Nat) {n : Nat} (hn : ops.size = n) (h : TE P rd ops p q C [] (line 0 n) E H) : PN C (WP P rd (.region id ops false) p) E H := fun a w hr hs => by
  refine wpIn_region ?_
  rw [hn, List.range_eq_range']
  refine wpOps_of_TO (Lp := Hp []) (loud := ld ops q) (fun i o hi hl => ld_defer i o hi hl) _ a w (Hp.nil w) ?_
  rw [← TT_line]
  exact h a w hr ⟨hs.fr, by simpa using hs.hp⟩

/-- The region draws its order: the blocks 'is' may be written in it, 'js' are read alone. -/
theorem pn_draw (q : List Nat) (is js : List Nat) {n : Nat} (hn : ops.size = n) (hm : P.follows .mixedOrders = true) (hc : chk ops (ld ops q) (Region.before ops) = true)
    (h1 : ((is ++ js).all fun i => Nat.blt i H.length) = true) (h2 : nodupN (is ++ js) = true) (h : TE P rd ops p q C (pick H js) (line 0 n) E (pick H is)) : PN C (WP P rd (.region id ops true) p) E H := fun a w hr hs => by
  have hp : Hp (pick H (is ++ js)) w := hs.hp.pick h1 h2
  have happ : ∀ (l : List Nat), pick H (l ++ js) = pick H l ++ pick H js := fun l => by induction l with
    | nil => rfl
    | cons i l ih => simp [pick, ih]
  rw [happ] at hp
  refine wp_draw hm hc hp.right.drew ?_
  rw [hn, List.range_eq_range', ← TT_line]
  exact h a w.drew hr ⟨hs.fr.drew, hp.drew⟩
end code

/-! ### Functions -/
/-- What a call leaves: its value; of the blocks X (turned) and of new ones what H1 tells; all else as it was. -/
def Ret (w : World) (X : List Nat) (post : Value → Mem → Prop) : Ending → World → Prop := fun e w' =>
  ∃ v H1, e = .returned v ∧ post v H1 ∧ Fr w X w' ∧ Hp H1 w' ∧ ∀ e ∈ H1, e.1 ∈ X ∨ w.heap.size ≤ e.1

def retP (P : Program) (fn : Func) (R : Ending → World → Prop) : Act → World → Prop := fun a w => LeavesInM (Fw none) 0 P fn a.tmps R a.defers .returning w

def exitP (P : Program) (fn : Func) (R : Ending → World → Prop) : Pst :=
  { n := retP P fn R, r := retP P fn R, x := fun _ _ _ => False, g := fun _ _ _ => False }

def enum : Nat → List Value → Env
  | _, [] => []
  | i, v :: r => (i, v) :: enum (i + 1) r

theorem enum_get : ∀ (l : List Value) (i t : Nat) (v : Value), (enum i l).get t = some v → i ≤ t ∧ l[t - i]? = some v
  | [], i, t, v, h => by simp [enum, Env.get] at h
  | u :: r, i, t, v, h => by
    simp only [enum, Env.get] at h
    by_cases hit : i = t
    · subst hit
      rw [show Nat.beq i i = true from by simp] at h
      simp at h; subst h
      simp
    · rw [beq_no hit] at h
      obtain ⟨h1, h2⟩ := enum_get r (i + 1) t v h
      refine ⟨by omega, ?_⟩
      rw [show t - i = (t - (i + 1)) + 1 from by omega]
      simpa using h2

theorem fn_enter {P : Program} {f : FuncId} {fn : Func} {c : Code} {args : List Value} {N : Nat} {w : World} {X : List Nat} {H : Mem} {post : Value → Mem → Prop} (hf : P.funcs[f]? = some fn) (hb : fn.body = some c) (hN : fn.ntmps = N) (hlen : Nat.ble args.length N = true) (hH : Hp H w)
    (h : PN ⟨N, [], w, X⟩ (WP P none c (exitP P fn (Ret w X post))) (enum 0 args) H) : Calls P f args.toArray w (Ret w X post) := by
  refine callsIn_wide (n := 0).1 ?_
  refine callsIn_of_wp_marks hf hb trivial ?_ rfl
  have h0 := h { tmps := args.toArray ++ Array.replicate (fn.ntmps - args.toArray.size) undef, defers := [] } w ?_ ⟨Fr.refl w X, hH⟩
  · exact wp_of (p := exitP P fn (Ret w X post)) (fun e a w q => by cases e <;> first | exact q | exact q.elim) h0
  · have hlen' : args.length ≤ N := by simpa using hlen
    refine ⟨by simp [hN]; omega, rfl, ?_⟩
    intro t v ht
    obtain ⟨_, h2⟩ := enum_get args 0 t v ht
    obtain ⟨hlt, h3⟩ := List.getElem?_eq_some_iff.1 h2
    simp only [Nat.sub_zero] at hlt h3
    rw [Array.getElem?_append_left (by simpa using hlt)]
    simpa using h2

def resE (E : Env) : List ResultVar → Option (List Value)
  | [] => some []
  | .tmp t :: r => match E.get t, resE E r with
    | some v, some vs => some (v :: vs)
    | _, _ => none
  | _ => none

theorem resE_run {P : Program} {N : Nat} {ds : List Deferred} {E : Env} {a : Act} (hr : Rep N ds E a) (w : World) : ∀ (l : List ResultVar) (vs : List Value), resE E l = some vs →
    (l.mapM (m := Sem) fun | .tmp t => pure (a.tmps.getD t undef) | .cell b t => do loadVar t (← asAddr (a.tmps.getD b undef))).run P w = .ok vs w
  | [], vs, h => by simp [resE] at h; subst h; rfl
  | .cell b t :: r, vs, h => by simp [resE] at h
  | .tmp t :: r, vs, h => by
    simp only [resE] at h
    cases h1 : E.get t with
    | none => simp [h1] at h
    | some v =>
      cases h2 : resE E r with
      | none => simp [h1, h2] at h
      | some us =>
        simp [h1, h2] at h
        subst h
        have ih := resE_run (P := P) hr w r us h2
        have hv := hr.get t v h1
        have hv' : a.tmps.getD t undef = v := by simp [Array.getD_eq_getD_getElem?, hv]
        rw [List.mapM_cons]
        simp only [Sem.run_bind, Sem.run_pure, Result.andThen_ok, ih, hv']

def tupV : List Value → Value
  | [v] => v
  | vs => .tuple vs.toArray

theorem results_run {P : Program} {fn : Func} {N : Nat} {ds : List Deferred} {E : Env} {a : Act} (hr : Rep N ds E a) (w : World) {l : List ResultVar} (hl : fn.results = l.toArray) {vs : List Value} (h : resE E l = some vs) :
    (results fn a.tmps).run P w = .ok (tupV vs) w := by
  have := resE_run (P := P) hr w l vs h
  unfold results
  rw [hl, Array.mapM_eq_mapM_toList]
  simp only [Sem.run_bind, Sem.run_map]
  erw [this]
  simp only [Result.andThen_ok, Sem.run_pure]
  rcases vs with _ | ⟨v, _ | ⟨u, r⟩⟩ <;> simp [tupV]

end Go.Mv
