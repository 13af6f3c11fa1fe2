import Derived.Test.YtjdjlcmajeikcaaMvJ
import Derived.Laws.BitsAllLaws
namespace Go.Mv
open Go Go.Proofs
section els
variable {α : Type} {enc : α → List Value} {sz : Nat}
theorem putL_part (hk : ∀ x, (enc x).length = sz) {l : List α} {tl : List Value} {i f : Nat} {z z' : α} {vs : List Value} (hi : l[i]? = some z) (hf : f + vs.length ≤ sz) (hz : enc z' = (putL (enc z).toArray f vs).toList) :
    putL (cat enc l ++ tl).toArray (i * sz + f) vs = (cat enc (l.set i z') ++ tl).toArray := by
  have hil := (List.getElem?_eq_some_iff.1 hi).1
  have hb : i * sz + sz ≤ l.length * sz := by
    have : (i + 1) * sz ≤ l.length * sz := Nat.mul_le_mul_right _ hil
    rwa [Nat.add_mul, Nat.one_mul] at this
  have hlen : (cat enc l).length = l.length * sz := cat_len hk l
  rw [← cat_putL hk hil z']
  apply Array.ext_getElem?
  intro t
  rw [get_putL vs _ _ t (by rw [List.size_toArray, List.length_append]; omega), get_putL (enc z') _ _ t (by rw [hk, List.size_toArray, List.length_append]; omega), hk]
  by_cases h1 : i * sz ≤ t ∧ t < i * sz + sz
  · rw [if_pos h1]
    obtain ⟨k, rfl⟩ : ∃ k, t = i * sz + k := ⟨t - i * sz, by omega⟩
    have e0 : (putL (enc z).toArray f vs).toList[k]? = (putL (enc z).toArray f vs)[k]? := Array.getElem?_toList
    rw [Nat.add_sub_cancel_left, hz, e0, get_putL vs (enc z).toArray f k (by rw [List.size_toArray, hk]; exact hf)]
    have e : (cat enc l ++ tl).toArray[i * sz + k]? = (enc z).toArray[k]? := by
      rw [List.getElem?_toArray, List.getElem?_toArray, List.getElem?_append_left (by omega)]
      exact cat_get hk l i k z hi (by omega)
    rw [e]
    by_cases h2 : f ≤ k ∧ k < f + vs.length
    · rw [if_pos h2, if_pos (by omega)]; congr 1; omega
    · rw [if_neg h2, if_neg (by omega)]
  · rw [if_neg h1, if_neg (by omega)]
end els
theorem bvx_set {α : Type} (l : List α) (i : Nat) (z : α) (st : SnkS) : bldVx (l.set i z) st = bldVx l st := by
  rcases st with _ | ⟨b, c, tl⟩
  · rfl
  · simp [bldVx]
theorem bmx_own {α : Type} {u : TypeId} {enc : α → List Value} {l l' : List α} {st : SnkS} {Q : Nat → Prop} (h : ∀ e ∈ bldMx u enc l st, Q e.1) : ∀ e ∈ bldMx u enc l' st, Q e.1 := by
  rcases st with _ | ⟨b, c, tl⟩
  · intro e he; cases he
  · intro e he
    simp only [bldMx, List.mem_cons, List.not_mem_nil, or_false] at he h
    subst he; exact h (b, .cells (cat enc l ++ tl).toArray u (0, 0)) rfl
section te
variable {P : Program} {rd : Option Nat} {ops : Array Oper} {p : Pst} {q : List Nat} {C : Ctx} {L M : Mem} {k : Nat} {tr : Tr} {E : Env}
variable {ty : TypeId} {ps : String} {af : Array Edge} {g : Option (Nat × Bool)}
theorem TE_setG {α : Type} {sz n : Nat} {enc : α → List Value} {T : TypeId} {x y : Operand} {u : TypeId} {v0 vv : Value} {st : SnkS} {o : Nat} (l : List α) (i f : Nat) (z z' : α) (B : Mem) (hk : ∀ x, (enc x).length = sz) (h1 : ∀ x, ∀ v ∈ enc x, v.oneCell' = true)
    (ho : ops[k]? = some ⟨none, .store T x y, ty, ps, af, g⟩) (hs : ∀ w, (sizeOf T).run P w = .ok n w) (hg : GOK ops E g) (hM : ∀ a, cnt a (bldMx u enc l st ++ B) ≤ cnt a M) (hbo : BldOk sz enc l st) (hv0 : v0 = bldVx l st)
    (hx : evalE E x = some (slp v0 o)) (hy : evalE E y = some vv) (hn : Nat.beq vv.cells.size n = true) (hi : l[i]? = some z) (hoff : o = i * sz + f) (hf : f + n ≤ sz) (hz : enc z' = (putL (enc z).toArray f vv.cells.toList).toList)
    (hw : ∀ e ∈ bldMx u enc l st, C.w0.heap.size ≤ e.1 ∨ e.1 ∈ C.X) (h : BldOk sz enc (l.set i z') st → TE P rd ops p q C L tr E (bldMx u enc (l.set i z') st ++ B)) : TE P rd ops p q C L (.op k tr) E M := by
  have hn' := Nat.eq_of_beq_eq_true hn
  have hil := (List.getElem?_eq_some_iff.1 hi).1
  obtain ⟨b, cap, tl, rfl⟩ := hbo.some_of (fun e => by rw [e] at hil; simp at hil)
  subst hv0; subst hoff
  have hvl : vv.cells.toList.length = n := by rw [Array.length_toList, hn']
  have hb : i * sz + sz ≤ l.length * sz := by
    have : (i + 1) * sz ≤ l.length * sz := Nat.mul_le_mul_right _ hil
    rwa [Nat.add_mul, Nat.one_mul] at this
  have hlen : (cat enc l).length = l.length * sz := cat_len hk l
  refine TE_sp (bldMx u enc l (some (b, cap, tl)) ++ B) (fun a => by have := hM a; simp only [cnt_append] at this ⊢; omega) ?_
  refine TE_put (i := 0) (n := n) (off := 0 + (i * sz + f)) ho hs hg hx hy hn (List.all_eq_true.2 fun q hq => ?_) rfl (Nat.ble_eq_true_of_le (by rw [List.size_toArray, List.length_append]; omega)) (hw _ List.mem_cons_self) ?_
  · obtain ⟨j, hj⟩ := List.mem_iff_getElem?.1 hq
    have hjl : j < n := by have := (List.getElem?_eq_some_iff.1 hj).1; omega
    have : (enc z')[f + j]? = some q := by
      have e0 : (putL (enc z).toArray f vv.cells.toList).toList[f + j]? = (putL (enc z).toArray f vv.cells.toList)[f + j]? := Array.getElem?_toList
      rw [hz, e0, get_putL _ _ _ _ (by rw [List.size_toArray, hk, hvl]; exact hf), if_pos (by omega), Nat.add_sub_cancel_left, hj]
    exact h1 z' q (List.mem_of_getElem? this)
  · rw [Nat.zero_add, putL_part hk hi (by rw [hvl]; exact hf) hz]
    exact h (hbo.set hk i z')
end te
section rd
variable {P : Program} {ty : TypeId} {E : Env} {L : Mem} {v u : Value} {x y z : Operand} {T U : TypeId} {a b : UInt32}
end rd
def slt (a b : ByteArray) : Bool := Op.bytesLess a.toList b.toList
def sle (a b : ByteArray) : Bool := slt a b || decide (a = b)
theorem bytesLess_irr : ∀ l : List UInt8, Op.bytesLess l l = false
  | [] => rfl
  | a :: l => by simp [Op.bytesLess, bytesLess_irr l]
theorem bytesLess_tri : ∀ a b : List UInt8, Op.bytesLess a b = true ∨ a = b ∨ Op.bytesLess b a = true
  | [], [] => .inr (.inl rfl)
  | [], _ :: _ => .inl rfl
  | _ :: _, [] => .inr (.inr rfl)
  | x :: a, y :: b => by
    simp only [Op.bytesLess, Bool.or_eq_true, decide_eq_true_eq, Bool.and_eq_true, beq_iff_eq]
    by_cases h : x = y
    · subst h
      rcases bytesLess_tri a b with h1 | h1 | h1
      · exact .inl (.inr ⟨rfl, h1⟩)
      · exact .inr (.inl (by rw [h1]))
      · exact .inr (.inr (.inr ⟨rfl, h1⟩))
    · by_cases h2 : x < y
      · exact .inl (.inl h2)
      · exact .inr (.inr (.inl (UInt8.lt_of_le_of_ne (UInt8.not_lt.1 h2) (Ne.symm h))))
theorem bytesLess_tr : ∀ {a b c : List UInt8}, Op.bytesLess a b = true → Op.bytesLess b c = true → Op.bytesLess a c = true
  | _, [], _, h, _ => by simp [Op.bytesLess] at h
  | _, _ :: _, [], _, h => by simp [Op.bytesLess] at h
  | [], _ :: _, _ :: _, _, _ => rfl
  | x :: a, y :: b, z :: c, h1, h2 => by
    simp only [Op.bytesLess, Bool.or_eq_true, decide_eq_true_eq, Bool.and_eq_true, beq_iff_eq] at *
    rcases h1 with h1 | ⟨rfl, h1⟩ <;> rcases h2 with h2 | ⟨rfl, h2⟩
    · exact .inl (UInt8.lt_trans h1 h2)
    · exact .inl h1
    · exact .inl h2
    · exact .inr ⟨rfl, bytesLess_tr h1 h2⟩
theorem toList_inj {a b : ByteArray} (h : a.toList = b.toList) : a = b := by
  have := string_beq a b
  rw [h] at this
  simp at this; exact this
theorem slt_irr (a : ByteArray) : slt a a = false := bytesLess_irr _
theorem slt_tr {a b c : ByteArray} (h1 : slt a b = true) (h2 : slt b c = true) : slt a c = true := bytesLess_tr h1 h2
theorem slt_tri (a b : ByteArray) : slt a b = true ∨ a = b ∨ slt b a = true := by
  rcases bytesLess_tri a.toList b.toList with h | h | h
  · exact .inl h
  · exact .inr (.inl (toList_inj h))
  · exact .inr (.inr h)
theorem slt_asym {a b : ByteArray} (h : slt a b = true) : slt b a = false := by
  cases h2 : slt b a with
  | false => rfl
  | true => have := slt_tr h h2; rw [slt_irr] at this; cases this
theorem sle_not (a b : ByteArray) : sle a b = !slt b a := by
  unfold sle
  rcases slt_tri a b with h | h | h
  · rw [h, slt_asym h]; rfl
  · subst h; rw [slt_irr]; simp
  · rw [h, slt_asym h]
    have : a ≠ b := fun e => by subst e; rw [slt_irr] at h; cases h
    simp [this]
section rd
variable {P : Program} {ty : TypeId} {E : Env} {L : Mem} {x y : Operand} {T U : TypeId} {a b : ByteArray}
theorem RD.leq_string (hx : evalE E x = some (.string a)) (hy : evalE E y = some (.string b)) : RD P (.binOp .leq T x y U) ty E L (.bool (sle a b)) :=
  RD.bin .leq (fun w => by simp [eqGuard, binOp, Op.stringOp, sle, slt, string_beq]) hx hy
theorem RD.geq_string (hx : evalE E x = some (.string a)) (hy : evalE E y = some (.string b)) : RD P (.binOp .geq T x y U) ty E L (.bool (!slt a b)) :=
  RD.bin .geq (fun w => by simp [eqGuard, binOp, Op.stringOp, slt]) hx hy
end rd
end Go.Mv
