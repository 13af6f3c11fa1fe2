import Derived.Test.YthagkkmbbncclaaDoorMvSlice
namespace Go.Mv
open Go

theorem u8_wrap (a : Int) : IntKind.u8.wrap a = a % 256 := by simp [IntKind.wrap, IntKind.bits, IntKind.signed]
theorem u32_wrap (a : Int) : IntKind.u32.wrap a = a % 4294967296 := by simp [IntKind.wrap, IntKind.bits, IntKind.signed]
theorem u64_wrap (a : Int) : IntKind.u64.wrap a = a % 18446744073709551616 := by simp [IntKind.wrap, IntKind.bits, IntKind.signed]

section rd
variable {P : Program} {ty : TypeId} {E : Env} {L : Mem} {v u z' : Value} {x y z : Operand} {T U : TypeId} {k : IntKind} {m n : Int}

/-! ### pointers and slices against nil -/
theorem eqIn_ptr {w : World} {d : Nat} {a : Option Addr} {e : TypeId} (hT : ∀ w, (underlying T).run P w = .ok (.pointer e) w) : (Op.equalIn (d + 1) T (.pointer a) (.pointer none)).run P w = .ok a.isNone w := by
  cases a <;> simp [Op.equalIn, hT]
theorem eqIn_sl {w : World} {d : Nat} {a : Option Addr} {e : TypeId} {n c : Nat} (hT : ∀ w, (underlying T).run P w = .ok (.slice e) w) : (Op.equalIn (d + 1) T (.slice a n c) (.slice none 0 0)).run P w = .ok a.isNone w := by
  cases a <;> simp [Op.equalIn, hT]
theorem run_eql_of {w : World} {b : Bool} (hg : (eqGuard .eql T x y u v).run P w = .ok () w) (hb : (binOp .eql T u v) = (do pure (.bool (← Op.equal T u v)))) (h : ∀ d, (Op.equalIn (d + 1) T u v).run P w = .ok b w) : (do eqGuard .eql T x y u v; binOp .eql T u v).run P w = .ok (.bool b) w := by
  have h' : (Op.equal T u v).run P w = .ok b w := h 9999
  rw [hb]
  simp only [Sem.run_bind, hg, Result.andThen_ok, h', Sem.run_pure]
theorem run_neq_of {w : World} {b : Bool} (hg : (eqGuard .neq T x y u v).run P w = .ok () w) (hb : (binOp .neq T u v) = (do pure (.bool (!(← Op.equal T u v))))) (h : ∀ d, (Op.equalIn (d + 1) T u v).run P w = .ok b w) : (do eqGuard .neq T x y u v; binOp .neq T u v).run P w = .ok (.bool (!b)) w := by
  have h' : (Op.equal T u v).run P w = .ok b w := h 9999
  rw [hb]
  simp only [Sem.run_bind, hg, Result.andThen_ok, h', Sem.run_pure]
theorem RD.ptr_eql_nil {a : Option Addr} {e : TypeId} (hT : ∀ w, (underlying T).run P w = .ok (.pointer e) w) (hx : evalE E x = some (.pointer a)) (hy : evalE E y = some (.pointer none)) : RD P (.binOp .eql T x y U) ty E L (.bool a.isNone) :=
  RD.bin .eql (fun w => run_eql_of (by cases a <;> rfl) (by cases a <;> rfl) (fun d => eqIn_ptr hT)) hx hy
theorem RD.ptr_neq_nil {a : Option Addr} {e : TypeId} (hT : ∀ w, (underlying T).run P w = .ok (.pointer e) w) (hx : evalE E x = some (.pointer a)) (hy : evalE E y = some (.pointer none)) : RD P (.binOp .neq T x y U) ty E L (.bool (!a.isNone)) :=
  RD.bin .neq (fun w => run_neq_of (by cases a <;> rfl) (by cases a <;> rfl) (fun d => eqIn_ptr hT)) hx hy
theorem RD.sl_eql_nil {a : Option Addr} {e : TypeId} {n c : Nat} (hT : ∀ w, (underlying T).run P w = .ok (.slice e) w) (hx : evalE E x = some (.slice a n c)) (hy : evalE E y = some (.slice none 0 0)) : RD P (.binOp .eql T x y U) ty E L (.bool a.isNone) :=
  RD.bin .eql (fun w => run_eql_of (by cases a <;> rfl) (by cases a <;> rfl) (fun d => eqIn_sl hT)) hx hy
theorem RD.sl_neq_nil {a : Option Addr} {e : TypeId} {n c : Nat} (hT : ∀ w, (underlying T).run P w = .ok (.slice e) w) (hx : evalE E x = some (.slice a n c)) (hy : evalE E y = some (.slice none 0 0)) : RD P (.binOp .neq T x y U) ty E L (.bool (!a.isNone)) :=
  RD.bin .neq (fun w => run_neq_of (by cases a <;> rfl) (by cases a <;> rfl) (fun d => eqIn_sl hT)) hx hy

/-! ### numbers -/
theorem RD.shr {k' : IntKind} (hx : evalE E x = some (.int k m)) (hy : evalE E y = some (.int k' n)) (h0 : 0 ≤ n) : RD P (.binOp .shr T x y U) ty E L (.int k (m.fdiv (2 ^ min n.toNat k.bits))) := RD.bin .shr (fun w => by
  simp [eqGuard, binOp, Op.shift, show ¬ n < 0 by omega]) hx hy
theorem RD.shl {k' : IntKind} (hx : evalE E x = some (.int k m)) (hy : evalE E y = some (.int k' n)) (h0 : 0 ≤ n) : RD P (.binOp .shl T x y U) ty E L (.int k (k.wrap (m * 2 ^ min n.toNat k.bits))) := RD.bin .shl (fun w => by
  simp [eqGuard, binOp, Op.shift, show ¬ n < 0 by omega]) hx hy
/-- The value told in another way. -/
theorem RD.as {op : Op} (h : RD P op ty E L u) (e : u = v) : RD P op ty E L v := e ▸ h

/-! ### lengths -/
def constsOf (xs : Array Operand) : Array Bool := xs.map fun | .const _ => true | _ => false
theorem RD.call_builtin {b : Builtin} {xs : Array Operand} {ats : Array TypeId} {vs : List Value} (ha : evalL E xs.toList = some vs) (hr : ∀ w, Hp L w → (builtin b ats ty (constsOf xs) vs.toArray).run P w = .ok (.value v) w) : RD P (.call ⟨.builtin b, xs, ats⟩) ty E L v := fun ρ w _ _ _ _ hρ hL => by
  have e : xs.map ρ = vs.toArray := by apply Array.toList_inj.1; simpa using evalL_map hρ _ _ ha
  have h := hr w hL
  simp only [execOp, resolve, e, Sem.run_bind, Sem.run_pure, Result.andThen_ok, invoke]
  exact h

theorem RD.len_string {s : ByteArray} (hT : ∀ w, (underlying T).run P w = .ok .string w) (hx : evalE E x = some (.string s)) : RD P (.call ⟨.builtin .len, #[x], #[T]⟩) ty E L (.int .i64 s.size) :=
  RD.call_builtin (vs := [.string s]) (by simp [evalL, hx]) (fun w _ => by simp [builtin, Builtin.len_, hT, goInt])
theorem RD.len_slice {a : Option Addr} {n c : Nat} {e : TypeId} (hT : ∀ w, (underlying T).run P w = .ok (.slice e) w) (hx : evalE E x = some (.slice a n c)) : RD P (.call ⟨.builtin .len, #[x], #[T]⟩) ty E L (.int .i64 n) :=
  RD.call_builtin (vs := [.slice a n c]) (by simp [evalL, hx]) (fun w _ => by simp [builtin, Builtin.len_, hT, goInt])
theorem RD.max2 (hx : evalE E x = some (.int k m)) (hy : evalE E y = some (.int k n)) {ats : Array TypeId} : RD P (.call ⟨.builtin .max, #[x, y], ats⟩) ty E L (.int k (if n > m then n else m)) :=
  RD.call_builtin (vs := [.int k m, .int k n]) (by simp [evalL, hx, hy]) (fun w _ => by simp [builtin, run_max_int2])
theorem RD.min2 (hx : evalE E x = some (.int k m)) (hy : evalE E y = some (.int k n)) {ats : Array TypeId} : RD P (.call ⟨.builtin .min, #[x, y], ats⟩) ty E L (.int k (if n < m then n else m)) :=
  RD.call_builtin (vs := [.int k m, .int k n]) (by simp [evalL, hx, hy]) (fun w _ => by simp [builtin, run_min_int2])

/-! ### parts of slices and strings -/
theorem RD.sliceS {b off len cap sz : Nat} {el : TypeId} {lo hi : Option Operand} {l h : Nat} (hT : ∀ w, (underlying T).run P w = .ok (.slice el) w) (hz : ∀ w, (sizeOf el).run P w = .ok sz w) (hx : evalE E x = some (.slice (some ⟨b, off, none⟩) len cap))
    (hlo : match lo with | none => l = 0 | some o => ∃ k, evalE E o = some (.int k l)) (hhi : match hi with | none => h = len | some o => ∃ k, evalE E o = some (.int k h)) (h1 : l ≤ h) (h2 : h ≤ cap) (h3 : l < cap) :
    RD P (.slice T x lo hi none) ty E L (.slice (some ⟨b, off + l * sz, none⟩) (h - l) (cap - l)) := fun ρ w _ _ _ _ hρ _ => by
  have hne : ¬ cap = l := by omega
  cases lo with
  | none =>
    cases hi with
    | none => subst hlo; subst hhi; simp [execOp, Instr.sliceAt, Instr.slice, Instr.sliceBounds, hT, hz, hρ _ _ hx, Addr.add]
    | some o =>
      obtain ⟨k, ho⟩ := hhi
      subst hlo
      simp [execOp, Instr.sliceAt, Instr.slice, Instr.sliceBounds, Instr.sliceBound, asIntOf, hT, hz, hρ _ _ hx, hρ _ _ ho, Addr.add, h2]
  | some o' =>
    obtain ⟨k', ho'⟩ := hlo
    have hadd : (⟨b, off, none⟩ : Addr).add (l * sz) = ⟨b, off + l * sz, none⟩ := by
      unfold Addr.add; split
      · rename_i h; simp
      · rfl
    cases hi with
    | none =>
      subst hhi
      simp [execOp, Instr.sliceAt, Instr.slice, Instr.sliceBounds, Instr.sliceBound, asIntOf, hT, hz, hρ _ _ hx, hρ _ _ ho', hne, h1, hadd]
    | some o =>
      obtain ⟨k, ho⟩ := hhi
      simp [execOp, Instr.sliceAt, Instr.slice, Instr.sliceBounds, Instr.sliceBound, asIntOf, hT, hz, hρ _ _ hx, hρ _ _ ho, hρ _ _ ho', hne, h1, h2, hadd]
end rd

/-! ### a slice that is written out -/
def evalP (E : Env) : List (Nat × Operand) → Option (List (Nat × Value))
  | [] => some []
  | (i, x) :: r => match evalE E x, evalP E r with
    | some v, some vs => some ((i, v) :: vs)
    | _, _ => none

theorem evalP_map {E : Env} {ρ : Operand → Value} (hρ : ∀ x u, evalE E x = some u → ρ x = u) : ∀ (l : List (Nat × Operand)) (vs : List (Nat × Value)), evalP E l = some vs → l.map (fun (i, x) => (i, ρ x)) = vs
  | [], vs, h => by simp [evalP] at h; simp [h]
  | (i, x) :: l, vs, h => by
    simp only [evalP] at h
    cases h1 : evalE E x with
    | none => simp [h1] at h
    | some v =>
      cases h2 : evalP E l with
      | none => simp [h1, h2] at h
      | some us =>
        simp [h1, h2] at h; subst h
        simp [hρ _ _ h1, evalP_map hρ l us h2]

section te
variable {P : Program} {rd : Option Nat} {ops : Array Oper} {p : Pst} {q : List Nat} {C : Ctx} {L M : Mem} {k : Nat} {tr : Tr} {E : Env}
variable {d : Nat} {ty : TypeId} {ps : String} {af : Array Edge} {g : Option (Nat × Bool)}

theorem TE_buildSlice {T el : TypeId} {n sz : Nat} {z : Value} {parts : Array (Nat × Operand)} {vs : List (Nat × Value)} {cells : Array Value} (ho : ops[k]? = some ⟨some d, .buildSlice T n parts, ty, ps, af, g⟩) (hT : ∀ w, (underlying T).run P w = .ok (.slice el) w) (hs : ∀ w, (sizeOf el).run P w = .ok sz w) (hz : ∀ w, (zeroValue el).run P w = .ok z w)
    (hv : evalP E parts.toList = some vs) (hn : Nat.blt 0 (n * sz) = true) (hn2 : Nat.ble (n * sz) 16777216 = true) (hf : Instr.fill (fun i => some (i * sz, sz)) ((Array.range (n * sz)).map (z.cells[· % z.cells.size]!)) vs = some cells) (hg : GOK ops E g) (hd : Nat.blt d C.N = true)
    (h : ∀ b, C.w0.heap.size ≤ b → TE P rd ops p q C L tr ((d, .slice (some ⟨b, 0, none⟩) n n) :: E) ((b, .cells cells el) :: M)) : TE P rd ops p q C L (.op k tr) E M :=
  TE_new (vf := fun b => .slice (some ⟨b, 0, none⟩) n n) ho (by simp [ld, ho]) hg rfl (fun ρ w _ _ _ _ hρ _ => by
    have e : (parts.map fun (i, x) => (i, ρ x)).toList = vs := by simpa using evalP_map hρ _ _ hv
    have hne : ¬ n * sz = 0 := by have : 0 < n * sz := by simpa using hn
                                  omega
    have hle : ¬ n * sz > 2 ^ 24 := by have : n * sz ≤ 16777216 := by simpa using hn2
                                       omega
    simp only [execOp, Instr.buildSlice]
    simp only [Sem.run_bind, hT, hs, Result.andThen_ok, Sem.run_ite, hle, hne, if_false, hz, Sem.run_pure, e, hf]
    simp [newRow]) hd h

theorem TE_buildSlice0 {T el : TypeId} {sz : Nat} (ho : ops[k]? = some ⟨some d, .buildSlice T 0 #[], ty, ps, af, g⟩) (hT : ∀ w, (underlying T).run P w = .ok (.slice el) w) (hs : ∀ w, (sizeOf el).run P w = .ok sz w)
    (hg : GOK ops E g) (hd : Nat.blt d C.N = true)
    (h : ∀ b, C.w0.heap.size ≤ b → TE P rd ops p q C L tr ((d, .slice (some ⟨b, 0, none⟩) 0 0) :: E) ((b, .cells #[] el) :: M)) : TE P rd ops p q C L (.op k tr) E M :=
  TE_new (vf := fun b => .slice (some ⟨b, 0, none⟩) 0 0) ho (by simp [ld, ho]) hg rfl (fun ρ w _ _ _ _ hρ _ => by
    simp only [execOp, Instr.buildSlice]
    simp [hT, hs, newRow, Instr.fill]
    rw [show Array.range 0 = #[] from by decide, Array.map_empty]) hd h
end te
end Go.Mv
