import Derived.Test.YthagkkmbbncclaaDoorMvEnd
import Derived.Laws.StructEq
import Derived.ChangeKeysEq
namespace Go.Mv
open Go

section rd
variable {P : Program} {ty : TypeId} {E : Env} {L : Mem} {v : Value} {x y : Operand} {sT el : TypeId}

/-- append of nothing. -/
theorem RD.append0 {sz by' : Nat} {z : Value} {a a' : Option Addr} {n cap c : Nat} (hT : P.underlying sT = some (.slice el)) (hI : ElI P el sz by' z) (hx : evalE E x = some (.slice a n cap)) (hy : evalE E y = some (.slice a' 0 c)) (hn : n ≤ cap) :
    RD P (.call ⟨.builtin .append, #[x, y], #[sT, sT]⟩) ty E L (.slice a n cap) := by
  obtain ⟨i0, hi0, hz0, hz1, hz2⟩ := info_parts hI
  refine RD.call_builtin (vs := [.slice a n cap, .slice a' 0 c]) (by simp [evalL, hx, hy]) (fun w _ => ?_)
  have hTu := fun w => run_underlying (w := w) hT
  cases a <;> cases a' <;> simp [builtin, Builtin.append_, hTu, sizeOf, typeInfo, hi0, Builtin.lenOf, Builtin.firstCells, hn, storeCells, loadCells, loadCellsFrom]
end rd

/-- A slice of bytes that can be read. -/
def BytesIn (H : Mem) (xv : Value) (ys : List UInt8) : Prop :=
  ∃ a c, xv = .slice a ys.length c ∧ (ys ≠ [] → ∃ ad, a = some ad ∧ ∀ w, Hp H w → ∀ j u, (bcells ys)[j]? = some u → w.cell? (ad.add j) = some u)

theorem BytesIn.blk {H : Mem} {i b c : Nat} {ys : List UInt8} {tl : List Value} {t : TypeId} {fz : Nat × Nat} (hi : H[i]? = some (b, .cells (bcells ys ++ tl).toArray t fz)) : BytesIn H (.slice (some ⟨b, 0, none⟩) ys.length c) ys :=
  ⟨_, c, rfl, fun _ => ⟨_, rfl, fun w hs j u hj => by
    have hadd : (⟨b, 0, none⟩ : Addr).add j = ⟨b, j, none⟩ := by
      unfold Addr.add; split
      · rename_i h; simp
      · simp
    rw [hadd]
    simp only [World.cell?, hs.get hi]
    obtain ⟨hlt, _⟩ := List.getElem?_eq_some_iff.1 hj
    simp [List.getElem?_append_left hlt, hj]⟩⟩

theorem BytesIn.nil {H : Mem} : BytesIn H (.slice none 0 0) [] := ⟨none, 0, rfl, fun h => absurd rfl h⟩
theorem BytesIn.mono {H H' : Mem} {xv : Value} {ys : List UInt8} (h : BytesIn H xv ys) (hs : ∀ w, Hp H' w → Hp H w) : BytesIn H' xv ys := by
  obtain ⟨a, c, e, h⟩ := h
  refine ⟨a, c, e, fun hn => ?_⟩
  obtain ⟨ad, ha, hr⟩ := h hn
  exact ⟨ad, ha, fun w hw => hr w (hs w hw)⟩
theorem BytesIn.src {H : Mem} {C : Ctx} {a : Option Addr} {c : Nat} {ys : List UInt8} (h : BytesIn H (.slice a ys.length c) ys) (hn : ys ≠ []) {H' : Mem} (hs : ∀ w, Hp H' w → Hp H w) : Src C H' (.slice a ys.length c) ys.length (bcells ys) := by
  obtain ⟨a', c', e, h⟩ := h
  simp only [Value.slice.injEq, true_and] at e
  obtain ⟨rfl, rfl⟩ := e
  obtain ⟨ad, rfl, hr⟩ := h hn
  exact ⟨ad, c, rfl, fun w hw => hr w (hs w hw.hp)⟩

theorem BytesIn.blk' {H : Mem} {i b c : Nat} {cs : Array Value} {ys : List UInt8} {tl : List Value} {t : TypeId} {fz : Nat × Nat} {n : Nat} (hi : H[i]? = some (b, .cells cs t fz)) (hc : cs = (bcells ys ++ tl).toArray) (hn : n = ys.length) : BytesIn H (.slice (some ⟨b, 0, none⟩) n c) ys := by
  subst hc; subst hn; exact BytesIn.blk hi

/-- New bytes: what slices.Clone and the like hand back. -/
def RetB (u : TypeId) (v : Value) (H1 : Mem) (ys : List UInt8) : Prop :=
  (∃ b cap tl, v = .slice (some ⟨b, 0, none⟩) ys.length cap ∧ H1 = [(b, .cells (bcells ys ++ tl).toArray u (0, 0))] ∧ ys.length ≤ cap ∧ cap ≤ maxLen ∧ (bcells ys ++ tl).length = cap * 1) ∨ (v = .slice none 0 0 ∧ H1 = [] ∧ ys = [])

theorem RetB.bytes {u : TypeId} {v : Value} {H1 : Mem} {ys : List UInt8} (h : RetB u v H1 ys) : BytesIn H1 v ys := by
  rcases h with ⟨b, cap, tl, rfl, rfl, _⟩ | ⟨rfl, rfl, rfl⟩
  · exact BytesIn.blk (i := 0) rfl
  · exact BytesIn.nil

section te
variable {P : Program} {rd : Option Nat} {ops : Array Oper} {p : Pst} {q : List Nat} {C : Ctx} {L M : Mem} {k : Nat} {tr : Tr} {E : Env}
variable {d : Nat} {ty : TypeId} {ps : String} {af : Array Edge} {g : Option (Nat × Bool)}
theorem TE_callT {f : Operand} {xs : Array Operand} {ats : Array TypeId} {fid : FuncId} {fs cap : Array Value} {vs : List Value} {post : Value → Mem → Prop} (A R : Mem) (hM : M = A ++ R) (ho : ops[k]? = some ⟨some d, .call ⟨.value f, xs, ats⟩, ty, ps, af, g⟩) (hl : ld ops q k = true) (hg : GOK ops E g)
    (hen : ∀ args w, (callFunc fid args).run P w = .ok (.enter fid args) w) (hf : evalE E f = some (.func (.func fid) fs cap)) (ha : evalL E xs.toList = some vs) (hd : Nat.blt d C.N = true)
    (hX : ∀ e ∈ R, C.w0.heap.size ≤ e.1 ∨ e.1 ∈ C.X)
    (hc : ∀ w, St C.w0 C.X (A ++ R ++ L) w → Calls P fid (fs.toList ++ vs ++ cap.toList).toArray w (Ret w (keys R) post))
    (h : ∀ v H1, post v H1 → (∀ e ∈ H1, C.w0.heap.size ≤ e.1 ∨ e.1 ∈ C.X) → TE P rd ops p q C L tr ((d, v) :: E) (A ++ H1)) : TE P rd ops p q C L (.op k tr) E M :=
  TE_callS A.length ho hl hg hen hf ha hd (A := A) (R := R) (by rw [hM]; simp) (by rw [hM]; simp) hX (fun w hs => hc w (hM ▸ hs)) h
end te
theorem Hp.mid {A B D : Mem} {w : World} (h : Hp (A ++ B ++ D) w) : Hp B w := h.left.right
theorem snk_in {T u : TypeId} {s : Nat} {l : List UInt8} {st : SnkS} {w : World} {X : List Nat} (h : X = keys (snkM T u s l st)) : ∀ e ∈ snkM T u s l st, w.heap.size ≤ e.1 ∨ e.1 ∈ X := fun e he => .inr (h ▸ mem_keys.2 ⟨e, he, rfl⟩)
theorem where_ {H : Mem} {X : List Nat} {n : Nat} (h : ∀ e ∈ H, n ≤ e.1 ∨ e.1 ∈ X) : ∀ e ∈ H, e.1 ∈ X ∨ n ≤ e.1 := fun e he => (h e he).symm

theorem snk_all0 {T u : TypeId} {s : Nat} {l : List UInt8} (Q : Nat → Prop) (h : Q s) : ∀ e ∈ snkM T u s l none, Q e.1 := by
  intro e he
  simp only [snkM, List.mem_cons, List.not_mem_nil, or_false] at he
  rw [he]; exact h
theorem u64_len {n : Nat} (h : n < 18446744073709551616) : Value.int .u64 (IntKind.u64.wrap (n : Int)) = .int .u64 (n : Int) := by
  rw [u64_wrap, Int.emod_eq_of_lt (by omega) (by omega)]

section rd2
variable {P : Program} {ty : TypeId} {E : Env} {L : Mem} {v u z' : Value} {x y z : Operand} {T U : TypeId} {k : IntKind} {m n : Int}
/-- A part of an array, from its begin. -/
theorem RD.sliceA {b off n sz : Nat} {el : TypeId} {hi : Option Operand} {h : Nat} (hT : ∀ w, (underlying T).run P w = .ok (.array n el) w) (hz : ∀ w, (sizeOf el).run P w = .ok sz w) (hx : evalE E x = some (.pointer (some ⟨b, off, none⟩)))
    (hhi : match hi with | none => h = n | some o => ∃ k, evalE E o = some (.int k h)) (h1 : h ≤ n) :
    RD P (.slice T x none hi none) ty E L (.slice (some ⟨b, off, none⟩) h n) := fun ρ w _ _ _ _ hρ _ => by
  cases hi with
  | none => subst hhi; simp [execOp, Instr.sliceAt, Instr.sureAddr, Instr.sliceBounds, hT, hz, hρ _ _ hx, Addr.add]
  | some o =>
    obtain ⟨k, ho⟩ := hhi
    simp [execOp, Instr.sliceAt, Instr.sureAddr, Instr.sliceBounds, Instr.sliceBound, asIntOf, hT, hz, hρ _ _ hx, hρ _ _ ho, Addr.add, h1]
theorem string_beq (a b : ByteArray) : (a.toList == b.toList) = decide (a = b) := by
  rw [ByteArray.toList_eq, ByteArray.toList_eq]
  by_cases h : a = b
  · subst h; simp
  · have : ¬ a.data.toList = b.data.toList := fun h' => h (ByteArray.ext (Array.toList_inj.1 h'))
    rw [decide_eq_false h]; simpa using this
theorem eqIn_bool {w : World} {d : Nat} {a b : Bool} (hT : ∀ w, (underlying T).run P w = .ok .bool w) : (Op.equalIn (d + 1) T (.bool a) (.bool b)).run P w = .ok (a == b) w := by simp [Op.equalIn, hT]
theorem RD.eql_string {a b : ByteArray} (hx : evalE E x = some (.string a)) (hy : evalE E y = some (.string b)) : RD P (.binOp .eql T x y U) ty E L (.bool (decide (a = b))) :=
  RD.bin .eql (fun w => by simp [eqGuard, binOp, Op.stringOp, string_beq]) hx hy
theorem RD.neq_string {a b : ByteArray} (hx : evalE E x = some (.string a)) (hy : evalE E y = some (.string b)) : RD P (.binOp .neq T x y U) ty E L (.bool (!decide (a = b))) :=
  RD.bin .neq (fun w => by simp [eqGuard, binOp, Op.stringOp, string_beq]) hx hy
theorem RD.eql_bool {a b : Bool} (hT : ∀ w, (underlying T).run P w = .ok .bool w) (hx : evalE E x = some (.bool a)) (hy : evalE E y = some (.bool b)) : RD P (.binOp .eql T x y U) ty E L (.bool (a == b)) :=
  RD.bin .eql (fun w => run_eql_of (by rfl) (by rfl) (fun d => eqIn_bool hT)) hx hy
theorem RD.neq_bool {a b : Bool} (hT : ∀ w, (underlying T).run P w = .ok .bool w) (hx : evalE E x = some (.bool a)) (hy : evalE E y = some (.bool b)) : RD P (.binOp .neq T x y U) ty E L (.bool (!(a == b))) :=
  RD.bin .neq (fun w => run_neq_of (by rfl) (by rfl) (fun d => eqIn_bool hT)) hx hy
end rd2
end Go.Mv
