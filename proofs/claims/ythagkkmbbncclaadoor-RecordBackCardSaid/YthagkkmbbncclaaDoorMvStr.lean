import Derived.Test.YthagkkmbbncclaaDoorMvEq
import Derived.Laws.RangeString
import Derived.Lib.SplitLaws
import Derived.Shelf.Strings.Split
namespace Go.Mv
open Go

section te
variable {P : Program} {rd : Option Nat} {ops : Array Oper} {p : Pst} {q : List Nat} {C : Ctx} {L M : Mem} {k : Nat} {tr : Tr} {E : Env}
variable {d : Nat} {ty : TypeId} {ps : String} {af : Array Edge} {g : Option (Nat × Bool)}

/-- An operation that puts another object in a block's place. -/
theorem TE_obj {op : Op} {i b : Nat} {o o' : Obj} {v : Value} (ho : ops[k]? = some ⟨some d, op, ty, ps, af, g⟩) (hl : ld ops q k = true) (hg : GOK ops E g) (hnd : notDefer op = true) (hd : Nat.blt d C.N = true) (hi : M[i]? = some (b, o))
    (hrun : ∀ (ρ : Operand → Value) (w : World) dst pos af g, (∀ x u, evalE E x = some u → ρ x = u) → w.heap[b]? = some o → (execOp ρ ⟨dst, op, ty, pos, af, g⟩).run P w = .ok (.value v) (w.putObj b o'))
    (hw : C.w0.heap.size ≤ b ∨ b ∈ C.X) (h : TE P rd ops p q C L tr ((d, v) :: E) (M.set i (b, o'))) : TE P rd ops p q C L (.op k tr) E M :=
  TE_loud ho hl hg hnd fun a w hr hs => by
    have hb := hs.hp.get (i := i) (b := b) (o := o) (by
      obtain ⟨hlt, _⟩ := List.getElem?_eq_some_iff.1 hi
      rw [List.getElem?_append_left hlt]; exact hi)
    rw [hrun a.eval w _ _ _ _ (fun x u hu => hr.eval hu) hb]
    have hlt : b < w.heap.size := (Array.getElem?_eq_some_iff.1 hb).1
    have hst := hs.upd hi (w' := w.putObj b o') (o' := o') (World.putObj_heap_same hlt) (fun k hk => World.putObj_heap_other hk) rfl rfl rfl (by simp) hw
    exact ⟨hst.hp.right, h _ _ (hr.put (by simpa using hd) _) hst⟩

theorem TE_rangeS {T : TypeId} {x : Operand} {s : ByteArray} (ho : ops[k]? = some ⟨some d, .range T x, ty, ps, af, g⟩) (hT : ∀ w, (underlying T).run P w = .ok .string w) (hx : evalE E x = some (.string s)) (hg : GOK ops E g) (hd : Nat.blt d C.N = true)
    (h : ∀ b, C.w0.heap.size ≤ b → TE P rd ops p q C L tr ((d, .pointer (some ⟨b, 0, none⟩)) :: E) ((b, .stringIter s 0) :: M)) : TE P rd ops p q C L (.op k tr) E M :=
  TE_new (vf := fun b => .pointer (some ⟨b, 0, none⟩)) ho (by simp [ld, ho]) hg rfl (fun ρ w _ _ _ _ hρ _ => by simp [execOp, Instr.range, hT, hρ _ _ hx]) hd h

theorem TE_nextS {x : Operand} {i b pos : Nat} {s : ByteArray} (ho : ops[k]? = some ⟨some d, .next x true, ty, ps, af, g⟩) (hx : evalE E x = some (.pointer (some ⟨b, 0, none⟩))) (hg : GOK ops E g) (hd : Nat.blt d C.N = true) (hi : M[i]? = some (b, .stringIter s pos)) (hp : pos < s.size) (hw : C.w0.heap.size ≤ b ∨ b ∈ C.X)
    (h : TE P rd ops p q C L tr ((d, .tuple #[.bool true, .int .i64 pos, .int .i32 (Utf8.decode s pos).1]) :: E) (M.set i (b, .stringIter s (pos + (Utf8.decode s pos).2)))) : TE P rd ops p q C L (.op k tr) E M :=
  TE_obj ho (by simp [ld, ho]) hg rfl hd hi (fun ρ w _ _ _ _ hρ hb => by simp [execOp, Instr.next, hρ _ _ hx, getObj, setObj, Sem.run, hb, hp, Result.andThen, World.putObj, goInt]) hw h
theorem TE_nextE {x : Operand} {i b pos : Nat} {s : ByteArray} (ho : ops[k]? = some ⟨some d, .next x true, ty, ps, af, g⟩) (hx : evalE E x = some (.pointer (some ⟨b, 0, none⟩))) (hg : GOK ops E g) (hd : Nat.blt d C.N = true) (hi : M[i]? = some (b, .stringIter s pos)) (hp : ¬ pos < s.size)
    (h : TE P rd ops p q C L tr ((d, .tuple #[.bool false]) :: E) M) : TE P rd ops p q C L (.op k tr) E M :=
  TE_loud ho (by simp [ld, ho]) hg rfl fun a w hr hs => by
    have hb := hs.hp.get (i := i) (b := b) (o := .stringIter s pos) (by
      obtain ⟨hlt, _⟩ := List.getElem?_eq_some_iff.1 hi
      rw [List.getElem?_append_left hlt]; exact hi)
    have : (execOp a.eval ⟨some d, .next x true, ty, ps, af, g⟩).run P w = .ok (.value (.tuple #[.bool false])) w := by
      simp [execOp, Instr.next, hr.eval hx, getObj, Sem.run, hb, hp, Result.andThen]
    rw [this]
    exact ⟨hs.hp.right, h _ _ (hr.put (by simpa using hd) _) hs⟩
end te

/-- A byte at pos, or what is no ASCII. -/
theorem decode_big (s : ByteArray) (pos : Nat) (h : pos < s.size) (ha : ¬ (s[pos]'h).toNat < 128) : 128 ≤ (Utf8.decode s pos).1 := by
  have e : s.get! pos = s[pos]'h := by
    simp [ByteArray.get!, getElem!_pos, h]
    rfl
  have e' : s.get! (pos + 0) = s[pos]'h := e
  simp only [Utf8.decode, e', ha, if_false]
  repeat' split
  all_goals first | (simp only [Utf8.runeError]; omega) | (simp_all; omega) | skip

theorem Ret.same {P : Program} {f : FuncId} {args : Array Value} {w : World} {v : Value} (h : Calls P f args w fun e w' => e = .returned v ∧ w' = w) : Calls P f args w (Ret w [] fun x H1 => x = v ∧ H1 = []) :=
  h.mono (by rintro e w' ⟨rfl, rfl⟩; exact ⟨v, [], rfl, ⟨rfl, rfl⟩, Fr.refl _ _, Hp.nil _, by simp⟩)

theorem RD.str_of_int {P : Program} {ty : TypeId} {E : Env} {L : Mem} {x : Operand} {T U : TypeId} {k : IntKind} {n : Nat} {dS : TypeDesc} (hS : ∀ w, (underlying T).run P w = .ok dS w) (hU : ∀ w, (underlying U).run P w = .ok .string w) (hx : evalE E x = some (.int k n)) (hn : n < 128) :
    RD P (.convert T U x) ty E L (.string ⟨#[UInt8.ofNat n]⟩) := fun ρ w _ _ _ _ hρ _ => by
  have : (n : Int) < 128 := by omega
  have hv : Utf8.valid (n : Int) = true := by simp [Utf8.valid]; omega
  have he : Utf8.encode (n : Int) = ⟨#[UInt8.ofNat n]⟩ := by simp [Utf8.encode, hv, hn]
  simp [execOp, hρ _ _ hx, convert, hS, hU, Conv.intToString, he]

theorem Ret.new {P : Program} {f : FuncId} {args : Array Value} {w : World} {vf : Nat → Value} {o : Obj} (h : Calls P f args w fun e w' => e = .returned (vf w.heap.size) ∧ w' = w.alloc o) : Calls P f args w (Ret w [] fun x H1 => ∃ b, x = vf b ∧ H1 = [(b, o)]) :=
  h.mono (by
    rintro e w' ⟨rfl, rfl⟩
    refine ⟨_, [(w.heap.size, o)], rfl, ⟨_, rfl, rfl⟩, (Fr.refl w []).alloc o, ⟨fun e he => ?_, by simp⟩, fun e he => ?_⟩
    · simp only [List.mem_cons, List.not_mem_nil, or_false] at he
      subst he; exact heap_alloc_new w o
    · simp only [List.mem_cons, List.not_mem_nil, or_false] at he
      subst he; exact .inr (Nat.le_refl _))

/-- The library's variable MaxLen lies in the block 0. -/
def GOk (g : Obj) : Prop := ∃ cs t fz m, g = .cells cs t fz ∧ cs[0]? = some (.int .i64 m)
theorem GOk.cell {g : Obj} (h : GOk g) {H : Mem} {w : World} (hH : Hp H w) (i : Nat) (hi : H[i]? = some (0, g)) : ∃ m, w.cell? ⟨0, 0, none⟩ = some (.int .i64 m) := by
  obtain ⟨cs, t, fz, m, rfl, hc⟩ := h
  exact ⟨m, (cell_of hH (off := 0) hi).trans hc⟩

/-- A name's parts. -/
def partsOf (s : ByteArray) : List ByteArray := Lib.splitB ⟨#[47]⟩ 0 (Lib.countB s ⟨#[47]⟩) s
theorem splitB_size (sep : ByteArray) : ∀ (k : Nat) (s : ByteArray), ∀ x ∈ Lib.splitB sep 0 k s, x.size ≤ s.size
  | 0, s, x, hx => by simp [Lib.splitB] at hx; subst hx; exact Nat.le_refl _
  | k + 1, s, x, hx => by
    rw [Lib.splitB] at hx
    split at hx
    · simp at hx; subst hx; exact Nat.le_refl _
    · rcases List.mem_cons.1 hx with rfl | hx
      · simp; omega
      · have := splitB_size sep k _ x hx
        simp at this; omega
theorem partsOf_size {s x : ByteArray} (h : x ∈ partsOf s) : x.size ≤ s.size := splitB_size _ _ _ x h
theorem partsOf_length (s : ByteArray) : (partsOf s).length = Lib.countB s ⟨#[47]⟩ + 1 := Lib.splitB_all _ (by decide) 0 _ s rfl
theorem parts_get {l : List ByteArray} {i : Nat} (h : i < l.length) : cget (l.map Value.string).toArray (0 + (i : Int).toNat * 1) = some (.string (l[i]'h)) := by
  rw [cget_eq, Nat.zero_add, Nat.mul_one]
  simp [h]
end Go.Mv
