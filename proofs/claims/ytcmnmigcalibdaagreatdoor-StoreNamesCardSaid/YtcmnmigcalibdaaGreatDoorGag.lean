import Derived.Test.YtcmnmigcalibdaaGreatDoorGaf
import Derived.Laws.BitsAllLaws
import Derived.Lib.IndexAny
namespace Go.Mv
open Go Go.Proofs
section els
variable {α : Type} {enc : α → List Value} {sz : Nat}
theorem putL_part (hk : ∀ x, (enc x).length = sz) {l : List α} {tl : List Value} {i f : Nat} {z z' : α} {vs : List Value} (hi : l[i]? = some z) (hf : f + vs.length ≤ sz) (hz : enc z' = (putL (enc z).toArray f vs).toList) :
    putL (cat enc l ++ tl).toArray (i * sz + f) vs = (cat enc (l.set i z') ++ tl).toArray := by
  have hil := (List.getElem?_eq_some_iff.1 hi).1
  have hb : i * sz + sz ≤ l.length * sz := by
    have : (i + 1) * sz ≤ l.length * sz := Nat.mul_le_mul_right _ hil
    rwa [Nat.add_mul, Nat.one_mul] at this
  have hlen : (cat enc l).length = l.length * sz := cat_len hk l
  rw [← cat_putL hk hil z']
  apply Array.ext_getElem?
  intro t
  rw [get_putL vs _ _ t (by rw [List.size_toArray, List.length_append]; omega), get_putL (enc z') _ _ t (by rw [hk, List.size_toArray, List.length_append]; omega), hk]
  by_cases h1 : i * sz ≤ t ∧ t < i * sz + sz
  · rw [if_pos h1]
    obtain ⟨k, rfl⟩ : ∃ k, t = i * sz + k := ⟨t - i * sz, by omega⟩
    have e0 : (putL (enc z).toArray f vs).toList[k]? = (putL (enc z).toArray f vs)[k]? := Array.getElem?_toList
    rw [Nat.add_sub_cancel_left, hz, e0, get_putL vs (enc z).toArray f k (by rw [List.size_toArray, hk]; exact hf)]
    have e : (cat enc l ++ tl).toArray[i * sz + k]? = (enc z).toArray[k]? := by
      rw [List.getElem?_toArray, List.getElem?_toArray, List.getElem?_append_left (by omega)]
      exact cat_get hk l i k z hi (by omega)
    rw [e]
    by_cases h2 : f ≤ k ∧ k < f + vs.length
    · rw [if_pos h2, if_pos (by omega)]; congr 1; omega
    · rw [if_neg h2, if_neg (by omega)]
  · rw [if_neg h1, if_neg (by omega)]
end els
theorem bvx_set {α : Type} (l : List α) (i : Nat) (z : α) (st : SnkS) : bldVx (l.set i z) st = bldVx l st := by
  rcases st with _ | ⟨b, c, tl⟩
  · rfl
  · simp [bldVx]
theorem bmx_own {α : Type} {u : TypeId} {enc : α → List Value} {l l' : List α} {st : SnkS} {Q : Nat → Prop} (h : ∀ e ∈ bldMx u enc l st, Q e.1) : ∀ e ∈ bldMx u enc l' st, Q e.1 := by
  rcases st with _ | ⟨b, c, tl⟩
  · intro e he; cases he
  · intro e he
    simp only [bldMx, List.mem_cons, List.not_mem_nil, or_false] at he h
    subst he; exact h (b, .cells (cat enc l ++ tl).toArray u (0, 0)) rfl
section te
variable {P : Program} {rd : Option Nat} {ops : Array Oper} {p : Pst} {q : List Nat} {C : Ctx} {L M : Mem} {k : Nat} {tr : Tr} {E : Env}
variable {ty : TypeId} {ps : String} {af : Array Edge} {g : Option (Nat × Bool)}
theorem TE_setG {α : Type} {sz n : Nat} {enc : α → List Value} {T : TypeId} {x y : Operand} {u : TypeId} {v0 vv : Value} {st : SnkS} {o : Nat} (l : List α) (i f : Nat) (z z' : α) (B : Mem) (hk : ∀ x, (enc x).length = sz) (h1 : ∀ x, ∀ v ∈ enc x, v.oneCell' = true)
    (ho : ops[k]? = some ⟨none, .store T x y, ty, ps, af, g⟩) (hs : ∀ w, (sizeOf T).run P w = .ok n w) (hg : GOK ops E g) (hM : ∀ a, cnt a (bldMx u enc l st ++ B) ≤ cnt a M) (hbo : BldOk sz enc l st) (hv0 : v0 = bldVx l st)
    (hx : evalE E x = some (slp v0 o)) (hy : evalE E y = some vv) (hn : Nat.beq vv.cells.size n = true) (hi : l[i]? = some z) (hoff : o = i * sz + f) (hf : f + n ≤ sz) (hz : enc z' = (putL (enc z).toArray f vv.cells.toList).toList)
    (hw : ∀ e ∈ bldMx u enc l st, C.w0.heap.size ≤ e.1 ∨ e.1 ∈ C.X) (h : BldOk sz enc (l.set i z') st → TE P rd ops p q C L tr E (bldMx u enc (l.set i z') st ++ B)) : TE P rd ops p q C L (.op k tr) E M := by
  have hn' := Nat.eq_of_beq_eq_true hn
  have hil := (List.getElem?_eq_some_iff.1 hi).1
  obtain ⟨b, cap, tl, rfl⟩ := hbo.some_of (fun e => by rw [e] at hil; simp at hil)
  subst hv0; subst hoff
  have hvl : vv.cells.toList.length = n := by rw [Array.length_toList, hn']
  have hb : i * sz + sz ≤ l.length * sz := by
    have : (i + 1) * sz ≤ l.length * sz := Nat.mul_le_mul_right _ hil
    rwa [Nat.add_mul, Nat.one_mul] at this
  have hlen : (cat enc l).length = l.length * sz := cat_len hk l
  refine TE_sp (bldMx u enc l (some (b, cap, tl)) ++ B) (fun a => by have := hM a; simp only [cnt_append] at this ⊢; omega) ?_
  refine TE_put (i := 0) (n := n) (off := 0 + (i * sz + f)) ho hs hg hx hy hn (List.all_eq_true.2 fun q hq => ?_) rfl (Nat.ble_eq_true_of_le (by rw [List.size_toArray, List.length_append]; omega)) (hw _ List.mem_cons_self) ?_
  · obtain ⟨j, hj⟩ := List.mem_iff_getElem?.1 hq
    have hjl : j < n := by have := (List.getElem?_eq_some_iff.1 hj).1; omega
    have : (enc z')[f + j]? = some q := by
      have e0 : (putL (enc z).toArray f vv.cells.toList).toList[f + j]? = (putL (enc z).toArray f vv.cells.toList)[f + j]? := Array.getElem?_toList
      rw [hz, e0, get_putL _ _ _ _ (by rw [List.size_toArray, hk, hvl]; exact hf), if_pos (by omega), Nat.add_sub_cancel_left, hj]
    exact h1 z' q (List.mem_of_getElem? this)
  · rw [Nat.zero_add, putL_part hk hi (by rw [hvl]; exact hf) hz]
    exact h (hbo.set hk i z')
/-- make([]T, n): as many noughts. -/
theorem TE_makeSliceX {α : Type} {sz by' : Nat} {T el : TypeId} {zv : Value} {x y : Operand} {d : Nat} {n1 n2 : Int} (enc : α → List Value) (n : Nat) (z : α) (hk : ∀ x, (enc x).length = sz) (h1 : ∀ x, ∀ v ∈ enc x, v.oneCell' = true) (ho : ops[k]? = some ⟨some d, .makeSlice T x y, ty, ps, af, g⟩)
    (hT : P.underlying T = some (.slice el)) (hs : ∀ w, (sizeOf el).run P w = .ok sz w) (hz : ∀ w, (zeroValue el).run P w = .ok zv w) (hzc : zv.cells.toList = enc z) (hb : Nat.ble (n * by') 140737488355328 = true) (hI : ElI P el sz by' zv) (hx : evalE E x = some (.int .i64 n1)) (hy : evalE E y = some (.int .i64 n2)) (hn1 : n1 = (n : Int)) (hn2 : n2 = (n : Int)) (hn : Nat.ble n 4611686018427387904 = true) (hnz : Nat.blt 0 (n * sz) = true)
    (hg : GOK ops E g) (hd : Nat.blt d C.N = true) (h : ∀ b, C.w0.heap.size ≤ b → TE P rd ops p q C L tr ((d, .slice (some ⟨b, 0, none⟩) n n) :: E) ((b, .cells (cat enc (List.replicate n z) ++ []).toArray el (0, 0)) :: M)) : TE P rd ops p q C L (.op k tr) E M := by
  subst hn1; subst hn2
  have hb := Nat.le_of_ble_eq_true hb
  have hn := Nat.le_of_ble_eq_true hn
  have h0 : ¬ n * sz = 0 := by have : 0 < n * sz := by simpa using hnz
                               omega
  obtain ⟨i, hi, hi2⟩ : ∃ i, P.info? el = some i ∧ i.bytes = by' := by
    unfold ElI at hI
    cases hq : P.info? el with
    | none => rw [hq] at hI; simp at hI
    | some i => rw [hq] at hI; simp at hI; exact ⟨i, rfl, hI.2.2⟩
  refine TE_new (vf := fun b => .slice (some ⟨b, 0, none⟩) n n) ho (by simp [ld, ho]) hg rfl (fun ρ w _ _ _ _ hρ _ => ?_) hd h
  have hw : IntKind.i64.wrap (n : Int) = n := wrap64_id (by omega) (by omega)
  have hti : (typeInfo el).run P w = .ok i w := by simp [typeInfo, hi]
  have hcells : (Array.range (n * sz)).map (fun t => zv.cells[t % zv.cells.size]!) = (cat enc (List.replicate n z) ++ []).toArray := by
    have hsz : zv.cells.size = sz := by rw [← Array.length_toList, hzc, hk]
    apply Array.ext_getElem?
    intro t
    have hr : (cat enc (List.replicate n z) ++ []).toArray[t]? = (cat enc (List.replicate n z))[t]? := by rw [List.append_nil]; exact List.getElem?_toArray
    rw [hr, Array.getElem?_map]
    by_cases ht : t < n * sz
    · have hpos : 0 < sz := by
        rcases Nat.eq_zero_or_pos sz with h0 | h0
        · rw [h0, Nat.mul_zero] at ht; omega
        · exact h0
      have hm : t % sz < sz := Nat.mod_lt _ hpos
      have hdv : t / sz < n := by rw [Nat.div_lt_iff_lt_mul hpos]; exact ht
      have e1 : (cat enc (List.replicate n z))[t]? = (enc z)[t % sz]? := by
        have := cat_get hk (List.replicate n z) (t / sz) (t % sz) z (by rw [List.getElem?_replicate, if_pos hdv]) hm
        rw [Nat.div_add_mod'] at this; exact this
      have e2 : (enc z)[t % sz]? = zv.cells[t % sz]? := by rw [← hzc]; exact Array.getElem?_toList
      rw [e1, Array.getElem?_range, if_pos ht, Option.map_some, hsz, e2]
      rw [getElem!_pos zv.cells (t % sz) (by omega), Array.getElem?_eq_getElem (by omega)]
    · rw [Array.getElem?_range, if_neg ht, Option.map_none]
      exact (List.getElem?_eq_none (by rw [cat_len hk, List.length_replicate]; omega)).symm
  have ha : ∀ w, (asInt (.int .i64 (n : Int))).run P w = .ok (n : Int) w := fun w => by simp [asInt, asIntOf]
  simp only [execOp, hρ _ _ hx, hρ _ _ hy, Instr.makeSlice, Sem.run_bind, run_underlying hT, Result.andThen_ok, ha, hti]
  simp only [hi2, hw]
  have hbn : ((by' : Int) * (n : Int)) ≤ 140737488355328 := by rw [← Int.natCast_mul, Nat.mul_comm]; omega
  rw [if_neg (by simp; omega)]
  simp only [Sem.run_bind, run_askRoom, Result.andThen_ok, hs, Int.toNat_natCast]
  rw [if_neg h0]
  simp only [Sem.run_bind, hz, Sem.run_pure, Result.andThen_ok, hcells]
  simp [newRow]
theorem mkBld {α : Type} {enc : α → List Value} {sz : Nat} (hk : ∀ x, (enc x).length = sz) (n : Nat) {z : α} {b : Nat} (hn : n ≤ 4611686018427387904) : BldOk sz enc (List.replicate n z) (some (b, n, [])) := by
  refine ⟨by rw [List.length_replicate]; exact Nat.le_refl _, by unfold maxLen; omega, ?_⟩
  rw [List.append_nil, cat_len hk, List.length_replicate]
theorem mkOwn {α : Type} {u : TypeId} {enc : α → List Value} {l : List α} {b n m : Nat} {X : List Nat} (h : m ≤ b) : ∀ e ∈ bldMx u enc l (some (b, n, [])), m ≤ e.1 ∨ e.1 ∈ X := by
  intro e he
  simp only [bldMx, List.mem_cons, List.not_mem_nil, or_false] at he
  subst he; exact .inl h
end te
def wdV (a : UInt32) : Value := .int .u32 (a.toNat : Int)
theorem wlt (a : UInt32) : a.toNat < 4294967296 := a.toNat_lt
theorem blt8 (a : UInt8) : a.toNat < 256 := a.toNat_lt
theorem wrap32 {n : Nat} : IntKind.u32.wrap (n : Int) = ((n % 4294967296 : Nat) : Int) := by rw [u32_wrap]; omega
theorem wrap8 {n : Nat} : IntKind.u8.wrap (n : Int) = ((n % 256 : Nat) : Int) := by rw [u8_wrap]; omega
section rd
variable {P : Program} {ty : TypeId} {E : Env} {L : Mem} {v u : Value} {x y z : Operand} {T U : TypeId} {a b : UInt32}
theorem intBits_eq {op : BinOp} {k : IntKind} {m n : Int} {w : World} (ho : op = .and ∨ op = .or ∨ op = .xor ∨ op = .andNot) : (Op.intBits op k m n).run P w = .ok (.int k (bits op k m n)) w := by
  rcases ho with rfl | rfl | rfl | rfl <;> rfl
theorem RD.andW (hx : evalE E x = some (.int .u32 (a.toNat : Int))) (hy : evalE E y = some (.int .u32 (b.toNat : Int))) : RD P (.binOp .and T x y U) ty E L (.int .u32 ((a &&& b).toNat : Int)) :=
  RD.bin .and (fun w => by rw [UInt32.toNat_and, ← u32_and_nat _ _ (wlt a) (wlt b)]; simp [eqGuard, binOp, intBits_eq]) hx hy
theorem RD.orW (hx : evalE E x = some (.int .u32 (a.toNat : Int))) (hy : evalE E y = some (.int .u32 (b.toNat : Int))) : RD P (.binOp .or T x y U) ty E L (.int .u32 ((a ||| b).toNat : Int)) :=
  RD.bin .or (fun w => by rw [UInt32.toNat_or, ← u32_or_nat _ _ (wlt a) (wlt b)]; simp [eqGuard, binOp, intBits_eq]) hx hy
theorem RD.xorW (hx : evalE E x = some (.int .u32 (a.toNat : Int))) (hy : evalE E y = some (.int .u32 (b.toNat : Int))) : RD P (.binOp .xor T x y U) ty E L (.int .u32 ((a ^^^ b).toNat : Int)) :=
  RD.bin .xor (fun w => by rw [UInt32.toNat_xor, ← u32_xor_nat _ _ (wlt a) (wlt b)]; simp [eqGuard, binOp, intBits_eq]) hx hy
theorem RD.addW (hx : evalE E x = some (.int .u32 (a.toNat : Int))) (hy : evalE E y = some (.int .u32 (b.toNat : Int))) : RD P (.binOp .add T x y U) ty E L (.int .u32 ((a + b).toNat : Int)) :=
  (RD.add hx hy).as (by rw [← Int.natCast_add, wrap32, UInt32.toNat_add])
theorem RD.notW (hx : evalE E x = some (.int .u32 (a.toNat : Int))) : RD P (.unOp .xor T x) ty E L (.int .u32 ((~~~a).toNat : Int)) := fun ρ w _ _ _ _ hρ _ => by
  have h : bits .xor .u32 (4294967295 : Int) (a.toNat : Int) = ((~~~a).toNat : Int) := by
    have := u32_xor_nat 4294967295 a.toNat (by omega) (wlt a)
    rw [show ((4294967295 : Nat) : Int) = 4294967295 from rfl] at this
    rw [this]
    congr 1
  simp only [execOp, hρ _ _ hx]
  rw [← h]
  rfl
theorem RD.shrW {k : IntKind} {n : Nat} (hx : evalE E x = some (.int .u32 (a.toNat : Int))) (hy : evalE E y = some (.int k (n : Int))) (hn : n < 32) : RD P (.binOp .shr T x y U) ty E L (.int .u32 ((a >>> UInt32.ofNat n).toNat : Int)) :=
  (RD.shr hx hy (by omega)).as (by
    congr 1
    have h1 : min (n : Int).toNat IntKind.u32.bits = n := by show min (n : Int).toNat 32 = n; omega
    rw [h1, UInt32.toNat_shiftRight]
    have h2 : (UInt32.ofNat n).toNat = n := by rw [UInt32.toNat_ofNat']; omega
    rw [h2, Nat.mod_eq_of_lt hn, Nat.shiftRight_eq_div_pow]
    rw [show ((2 : Int) ^ n) = ((2 ^ n : Nat) : Int) from by simp, Int.fdiv_eq_ediv_of_nonneg _ (Int.natCast_nonneg _), ← Int.natCast_ediv])
theorem RD.shlW {k : IntKind} {n : Nat} (hx : evalE E x = some (.int .u32 (a.toNat : Int))) (hy : evalE E y = some (.int k (n : Int))) (hn : n < 32) : RD P (.binOp .shl T x y U) ty E L (.int .u32 ((a <<< UInt32.ofNat n).toNat : Int)) :=
  (RD.shl hx hy (by omega)).as (by
    congr 1
    have h1 : min (n : Int).toNat IntKind.u32.bits = n := by show min (n : Int).toNat 32 = n; omega
    rw [h1, UInt32.toNat_shiftLeft]
    have h2 : (UInt32.ofNat n).toNat = n := by rw [UInt32.toNat_ofNat']; omega
    rw [h2, Nat.mod_eq_of_lt hn, Nat.shiftLeft_eq]
    rw [show (a.toNat : Int) * (2 : Int) ^ n = ((a.toNat * 2 ^ n : Nat) : Int) from by simp]; exact wrap32)
theorem RD.widW {c : UInt8} {d : TypeDesc} (hS : ∀ w, (underlying T).run P w = .ok d w) (hU : ∀ w, (underlying U).run P w = .ok (.int .u32) w) (hx : evalE E x = some (.int .u8 (c.toNat : Int))) : RD P (.convert T U x) ty E L (.int .u32 (c.toUInt32.toNat : Int)) :=
  (RD.conv hS hU hx).as (by rw [wrap32, UInt8.toNat_toUInt32, Nat.mod_eq_of_lt (by have := blt8 c; omega)])
theorem RD.narW {d : TypeDesc} (hS : ∀ w, (underlying T).run P w = .ok d w) (hU : ∀ w, (underlying U).run P w = .ok (.int .u8) w) (hx : evalE E x = some (.int .u32 (a.toNat : Int))) : RD P (.convert T U x) ty E L (.int .u8 (a.toUInt8.toNat : Int)) :=
  (RD.conv hS hU hx).as (by rw [wrap8, UInt32.toNat_toUInt8])
end rd
def slt (a b : ByteArray) : Bool := Op.bytesLess a.toList b.toList
def sle (a b : ByteArray) : Bool := slt a b || decide (a = b)
theorem bytesLess_irr : ∀ l : List UInt8, Op.bytesLess l l = false
  | [] => rfl
  | a :: l => by simp [Op.bytesLess, bytesLess_irr l]
theorem bytesLess_tri : ∀ a b : List UInt8, Op.bytesLess a b = true ∨ a = b ∨ Op.bytesLess b a = true
  | [], [] => .inr (.inl rfl)
  | [], _ :: _ => .inl rfl
  | _ :: _, [] => .inr (.inr rfl)
  | x :: a, y :: b => by
    simp only [Op.bytesLess, Bool.or_eq_true, decide_eq_true_eq, Bool.and_eq_true, beq_iff_eq]
    by_cases h : x = y
    · subst h
      rcases bytesLess_tri a b with h1 | h1 | h1
      · exact .inl (.inr ⟨rfl, h1⟩)
      · exact .inr (.inl (by rw [h1]))
      · exact .inr (.inr (.inr ⟨rfl, h1⟩))
    · by_cases h2 : x < y
      · exact .inl (.inl h2)
      · exact .inr (.inr (.inl (UInt8.lt_of_le_of_ne (UInt8.not_lt.1 h2) (Ne.symm h))))
theorem bytesLess_tr : ∀ {a b c : List UInt8}, Op.bytesLess a b = true → Op.bytesLess b c = true → Op.bytesLess a c = true
  | _, [], _, h, _ => by simp [Op.bytesLess] at h
  | _, _ :: _, [], _, h => by simp [Op.bytesLess] at h
  | [], _ :: _, _ :: _, _, _ => rfl
  | x :: a, y :: b, z :: c, h1, h2 => by
    simp only [Op.bytesLess, Bool.or_eq_true, decide_eq_true_eq, Bool.and_eq_true, beq_iff_eq] at *
    rcases h1 with h1 | ⟨rfl, h1⟩ <;> rcases h2 with h2 | ⟨rfl, h2⟩
    · exact .inl (UInt8.lt_trans h1 h2)
    · exact .inl h1
    · exact .inl h2
    · exact .inr ⟨rfl, bytesLess_tr h1 h2⟩
theorem toList_inj {a b : ByteArray} (h : a.toList = b.toList) : a = b := by
  have := string_beq a b
  rw [h] at this
  simp at this; exact this
theorem slt_irr (a : ByteArray) : slt a a = false := bytesLess_irr _
theorem slt_tr {a b c : ByteArray} (h1 : slt a b = true) (h2 : slt b c = true) : slt a c = true := bytesLess_tr h1 h2
theorem slt_tri (a b : ByteArray) : slt a b = true ∨ a = b ∨ slt b a = true := by
  rcases bytesLess_tri a.toList b.toList with h | h | h
  · exact .inl h
  · exact .inr (.inl (toList_inj h))
  · exact .inr (.inr h)
theorem slt_asym {a b : ByteArray} (h : slt a b = true) : slt b a = false := by
  cases h2 : slt b a with
  | false => rfl
  | true => have := slt_tr h h2; rw [slt_irr] at this; cases this
theorem sle_not (a b : ByteArray) : sle a b = !slt b a := by
  unfold sle
  rcases slt_tri a b with h | h | h
  · rw [h, slt_asym h]; rfl
  · subst h; rw [slt_irr]; simp
  · rw [h, slt_asym h]
    have : a ≠ b := fun e => by subst e; rw [slt_irr] at h; cases h
    simp [this]
section rd
variable {P : Program} {ty : TypeId} {E : Env} {L : Mem} {x y : Operand} {T U : TypeId} {a b : ByteArray}
theorem RD.leq_string (hx : evalE E x = some (.string a)) (hy : evalE E y = some (.string b)) : RD P (.binOp .leq T x y U) ty E L (.bool (sle a b)) :=
  RD.bin .leq (fun w => by simp [eqGuard, binOp, Op.stringOp, sle, slt, string_beq]) hx hy
end rd
end Go.Mv

namespace Go.Mv
open Go
def byteC (c : UInt8) : List Value := [bcell c]
theorem byteC_len (c : UInt8) : (byteC c).length = 1 := rfl
theorem byteC_one (c : UInt8) : ∀ v ∈ byteC c, v.oneCell' = true := by
  intro v hv
  simp only [byteC, List.mem_cons, List.not_mem_nil, or_false] at hv
  subst hv; rfl
theorem cat_byteC : ∀ l : List UInt8, cat byteC l = bcells l
  | [] => rfl
  | c :: r => by
    have := cat_byteC r
    simp only [cat, bcells, List.flatMap_cons, List.map_cons] at this ⊢
    rw [this]; rfl
theorem Rdx.of_b {H : Mem} {v : Value} {ys : List UInt8} (h : Rdb H v ys) : Rdx 1 byteC H v ys := by
  rcases h with h | ⟨b, off, cap, h1, h2, h3⟩
  · exact .inl h
  · refine .inr ⟨b, off, cap, h1, h2, fun w hw i x hx j u hu => ?_⟩
    have hj : j = 0 := by have := (List.getElem?_eq_some_iff.1 hu).1; rw [byteC_len] at this; omega
    subst hj
    have hu' : bcell x = u := by simpa [byteC] using hu
    rw [Nat.mul_one, Nat.add_zero]
    exact h3 w hw i u (by simp [bcells, hx, hu'])
theorem Rdb.of_x {H : Mem} {v : Value} {ys : List UInt8} (h : Rdx 1 byteC H v ys) : Rdb H v ys := by
  rcases h with h | ⟨b, off, cap, h1, h2, h3⟩
  · exact .inl h
  · refine .inr ⟨b, off, cap, h1, h2, fun w hw j u hu => ?_⟩
    obtain ⟨x, hx, rfl⟩ : ∃ x, ys[j]? = some x ∧ bcell x = u := by simpa [bcells] using hu
    have := h3 w hw j x hx 0 (bcell x) rfl
    rwa [Nat.mul_one, Nat.add_zero] at this
theorem bldMx_b {u : TypeId} {l : List UInt8} {st : SnkS} : bldMx u byteC l st = bldM u l st := by
  rcases st with _ | ⟨b, cap, tl⟩
  · rfl
  · simp only [bldMx, bldM, cat_byteC]
theorem bldVx_b {l : List UInt8} {st : SnkS} : bldVx l st = bldV l st := by
  rcases st with _ | ⟨b, cap, tl⟩ <;> rfl
theorem BldOk.of_snk {l : List UInt8} {st : SnkS} (h : SnkOk l st) : BldOk 1 byteC l st := by
  rcases st with _ | ⟨b, cap, tl⟩
  · exact h
  · exact ⟨h.1, h.2.1, by rw [cat_byteC]; exact h.2.2⟩
def toB (z : Int) : UInt8 := UInt8.ofNat z.toNat
theorem bcell_toB {z : Int} (h0 : 0 ≤ z) (h1 : z < 256) : Value.int .u8 z = bcell (toB z) := bcell_of (by omega) (by omega)
theorem byte_put {c : UInt8} {z : Int} (h0 : 0 ≤ z) (h1 : z < 256) : byteC (toB z) = (putL (byteC c).toArray 0 (Value.int .u8 z).cells.toList).toList := by
  rw [bcell_toB h0 h1]; rfl
section rd
variable {P : Program} {ty : TypeId} {E : Env} {L : Mem} {x : Operand} {v : Value} {T : TypeId}
theorem RD.mkIface {d0 : TypeDesc} (hu : P.underlying T = some d0) (hd : ∀ m, d0 ≠ .interface m) (hx : evalE E x = some v) : RD P (.makeInterface T x) ty E L (.iface T v) := fun ρ w _ _ _ _ hρ _ => by
  simp only [execOp, hρ _ _ hx, Instr.makeInterface, Sem.run_bind, run_underlying hu, Result.andThen_ok]
  cases d0 with
  | interface m => exact absurd rfl (hd m)
  | _ => rfl
theorem RD.str_of_rune {U : TypeId} {k : IntKind} {n : Int} {dS : TypeDesc} (hS : ∀ w, (underlying T).run P w = .ok dS w) (hU : ∀ w, (underlying U).run P w = .ok .string w) (hx : evalE E x = some (.int k n)) :
    RD P (.convert T U x) ty E L (.string (Utf8.encode n)) := fun ρ w _ _ _ _ hρ _ => by
  simp [execOp, hρ _ _ hx, convert, hS, hU, Conv.intToString]
end rd
theorem lt_data {s : ByteArray} {i : Nat} (h : i < s.size) : i < s.data.toList.length := by simpa using h
theorem get!_data {s : ByteArray} {i : Nat} (h : i < s.size) : s.get! i = gt s.data.toList i := by
  have h' : i < s.data.toList.length := lt_data h
  have e1 : s.get! i = s.data[i]! := rfl
  have h2 : i < s.data.size := h
  rw [e1, getElem!_pos s.data i h2]
  have := gt_some h'
  rw [List.getElem?_eq_getElem h'] at this
  simpa using (Option.some.inj this)
def sepB (c : UInt8) : Bool := c == 47 || c == 0
def hasSep (s : ByteArray) : Bool := s.data.toList.any sepB
theorem decode_step {s : ByteArray} {pos : Nat} (h : pos < s.size) : 1 ≤ (Utf8.decode s pos).2 ∧ pos + (Utf8.decode s pos).2 ≤ s.size := by
  simp only [Utf8.decode]
  repeat' split
  all_goals first | (simp_all; omega) | (simp only [Bool.and_eq_true, decide_eq_true_eq] at *; omega)
theorem decode_span {s : ByteArray} {pos : Nat} (h : pos < s.size) (ha : ¬ (s.get! pos).toNat < 128) : 128 ≤ (Utf8.decode s pos).1 ∧ ∀ j, pos ≤ j → j < pos + (Utf8.decode s pos).2 → 128 ≤ (s.get! j).toNat := by
  have e0 : s.get! (pos + 0) = s.get! pos := rfl
  simp only [Utf8.decode, e0, ha, if_false]
  have one : ∀ j, pos ≤ j → j < pos + 1 → 128 ≤ (s.get! j).toNat := fun j h1 h2 => by
    obtain rfl : j = pos := by omega
    omega
  have co : ∀ k, ((s.get! (pos + k)).toNat / 64 == 2) = true → 128 ≤ (s.get! (pos + k)).toNat := fun k hk => by
    have := eq_of_beq hk; omega
  split
  · rename_i h1
    simp only [Bool.and_eq_true] at h1
    have c1 := co 1 h1.2.2
    split
    · exact ⟨by assumption, fun j h2 h3 => by
        have : j = pos ∨ j = pos + 1 := by simp only at h3; omega
        rcases this with rfl | rfl
        · omega
        · exact c1⟩
    · exact ⟨by decide, one⟩
  · split
    · rename_i h1
      simp only [Bool.and_eq_true] at h1
      have c1 := co 1 h1.1.2.2
      have c2 := co 2 h1.2.2
      split
      · rename_i h4
        simp only [Bool.and_eq_true, decide_eq_true_eq, ge_iff_le] at h4
        exact ⟨by simp only; omega, fun j h2 h3 => by
          have : j = pos ∨ j = pos + 1 ∨ j = pos + 2 := by simp only at h3; omega
          rcases this with rfl | rfl | rfl
          · omega
          · exact c1
          · exact c2⟩
      · exact ⟨by decide, one⟩
    · split
      · rename_i h1
        simp only [Bool.and_eq_true] at h1
        have c1 := co 1 h1.1.1.2.2
        have c2 := co 2 h1.1.2.2
        have c3 := co 3 h1.2.2
        split
        · rename_i h4
          simp only [Bool.and_eq_true, decide_eq_true_eq, ge_iff_le] at h4
          exact ⟨by simp only; omega, fun j h2 h3 => by
            have : j = pos ∨ j = pos + 1 ∨ j = pos + 2 ∨ j = pos + 3 := by simp only at h3; omega
            rcases this with rfl | rfl | rfl | rfl
            · omega
            · exact c1
            · exact c2
            · exact c3⟩
        · exact ⟨by decide, one⟩
      · exact ⟨by decide, one⟩
theorem sepB_big {c : UInt8} (h : 128 ≤ c.toNat) : sepB c = false := by
  have h1 : c ≠ 47 := fun e => by subst e; revert h; decide
  have h2 : c ≠ 0 := fun e => by subst e; revert h; decide
  simp [sepB, h1, h2]
theorem sepB_iff {c : UInt8} : sepB c = true ↔ (c.toNat : Int) = 47 ∨ (c.toNat : Int) = 0 := by
  have h1 : (c = 47) ↔ (c.toNat : Int) = 47 := by rw [UInt8.toNat_inj.symm]; show c.toNat = 47 ↔ _; omega
  have h2 : (c = 0) ↔ (c.toNat : Int) = 0 := by rw [UInt8.toNat_inj.symm]; show c.toNat = 0 ↔ _; omega
  rw [← h1, ← h2]
  simp [sepB]
theorem sepB_nat {c : UInt8} : sepB c = decide ((c.toNat : Int) = 47 ∨ (c.toNat : Int) = 0) := by
  rw [Bool.eq_iff_iff, sepB_iff]; simp
/-- No separator among the first. -/
def NoSep (s : ByteArray) (pos : Nat) : Prop := ∀ j, j < pos → sepB (s.get! j) = false
theorem NoSep.step {s : ByteArray} {pos : Nat} {z : Int} (h : NoSep s pos) (hp : pos < s.size) (hz : decide (0 ≤ z) = decide (((Utf8.decode s pos).1 : Int) = 47 ∨ ((Utf8.decode s pos).1 : Int) = 0)) (hn : ¬ 0 ≤ z) : NoSep s (pos + (Utf8.decode s pos).2) := fun j hj => by
  rcases Nat.lt_or_ge j pos with h1 | h1
  · exact h j h1
  by_cases ha : (s.get! pos).toNat < 128
  · have hd : Utf8.decode s pos = ((s.get! pos).toNat, 1) := by
      have e0 : s.get! (pos + 0) = s.get! pos := rfl
      simp only [Utf8.decode, e0, ha, if_true]
    rw [hd] at hj hz
    simp only at hj
    obtain rfl : j = pos := by omega
    rw [sepB_nat, ← hz]
    simpa using hn
  · exact sepB_big ((decode_span hp ha).2 j h1 hj)
theorem NoSep.none {s : ByteArray} {pos : Nat} (h : NoSep s pos) (hp : s.size ≤ pos) : hasSep s = false := by
  unfold hasSep
  refine List.any_eq_false.2 fun c hc => ?_
  obtain ⟨i, hi, rfl⟩ := List.getElem_of_mem hc
  have hi' : i < s.size := by simpa using hi
  have := h i (by omega)
  rw [get!_data hi'] at this
  have e := gt_some (l := s.data.toList) hi
  rw [List.getElem?_eq_getElem hi] at e
  rw [Option.some.inj e, this]; simp
theorem NoSep.hit {s : ByteArray} {pos : Nat} {z : Int} (hp : pos < s.size) (hz : decide (0 ≤ z) = decide (((Utf8.decode s pos).1 : Int) = 47 ∨ ((Utf8.decode s pos).1 : Int) = 0)) (hn : 0 ≤ z) : hasSep s = true := by
  have hr := of_decide_eq_true (hz.symm.trans (decide_eq_true hn))
  by_cases ha : (s.get! pos).toNat < 128
  · have hd : Utf8.decode s pos = ((s.get! pos).toNat, 1) := by
      have e0 : s.get! (pos + 0) = s.get! pos := rfl
      simp only [Utf8.decode, e0, ha, if_true]
    rw [hd] at hr
    have hs : sepB (s.get! pos) = true := by rw [sepB_nat]; exact decide_eq_true hr
    unfold hasSep
    rw [get!_data hp] at hs
    exact List.any_eq_true.2 ⟨_, gt_mem (lt_data hp), hs⟩
  · have := (decode_span hp ha).1
    omega
theorem enc_big {r : Int} (h : 128 ≤ r) : 2 ≤ (Utf8.encode r).size ∧ (Utf8.encode r).size ≤ 4 ∧ ((Utf8.encode r).size = 2 → 128 ≤ (gt (Utf8.encode r).data.toList 1).toNat) := by
  have hc : 128 ≤ (if Utf8.valid r then r.toNat else Utf8.runeError) := by
    split
    · omega
    · decide
  simp only [Utf8.encode]
  generalize (if Utf8.valid r then r.toNat else Utf8.runeError) = c at hc
  rw [if_neg (by omega)]
  split
  · refine ⟨Nat.le_refl _, Nat.le_of_ble_eq_true rfl, fun _ => ?_⟩
    show 128 ≤ (UInt8.ofNat (128 + c % 64)).toNat
    rw [UInt8.toNat_ofNat_of_lt' (by show 128 + c % 64 < 256; omega)]
    omega
  · split
    · exact ⟨Nat.le_of_ble_eq_true rfl, Nat.le_of_ble_eq_true rfl, fun h => absurd (show (3 : Nat) = 2 from h) (by decide)⟩
    · exact ⟨Nat.le_of_ble_eq_true rfl, Nat.le_of_ble_eq_true rfl, fun h => absurd (show (4 : Nat) = 2 from h) (by decide)⟩
theorem indexAny_sep (s : ByteArray) : decide (0 ≤ Lib.indexAny s.data.toList [47, 0]) = hasSep s := by
  unfold hasSep
  induction s.data.toList with
  | nil => rfl
  | cons b l ih =>
    have hge := Lib.indexAny_ge [47, 0] l
    have e : ([47, 0] : List UInt8).contains b = sepB b := by rw [Bool.eq_iff_iff]; simp [sepB]
    rw [Lib.indexAny, e, List.any_cons]
    cases sepB b with
    | true => rfl
    | false =>
      rw [Bool.false_or, ← ih]
      simp only [Bool.false_eq_true, if_false]
      split
      · rename_i h; rw [eq_of_beq h]
      · rename_i h
        have h' : Lib.indexAny l [47, 0] ≠ -1 := by simpa using h
        exact decide_eq_decide.2 (by omega)
theorem Ret.new2 {P : Program} {f : FuncId} {args : Array Value} {w : World} {v : Value} {o1 o2 : Obj} (h : Calls P f args w fun e w' => e = .returned v ∧ w' = (w.alloc o1).alloc o2) : Calls P f args w (Ret w [] fun x H1 => x = v ∧ H1 = []) :=
  h.mono (by rintro e w' ⟨rfl, rfl⟩; exact ⟨v, [], rfl, ⟨rfl, rfl⟩, ((Fr.refl w []).alloc o1).alloc o2, Hp.nil _, by simp⟩)
end Go.Mv

namespace Go.Mv
open Go Go.Proofs
def rotr (x : UInt32) (n : Nat) : UInt32 := (x >>> UInt32.ofNat n) ||| (x <<< UInt32.ofNat (32 - n))
def shaK : List UInt32 := [
  0x428a2f98, 0x71374491, 0xb5c0fbcf, 0xe9b5dba5, 0x3956c25b, 0x59f111f1, 0x923f82a4, 0xab1c5ed5,
  0xd807aa98, 0x12835b01, 0x243185be, 0x550c7dc3, 0x72be5d74, 0x80deb1fe, 0x9bdc06a7, 0xc19bf174,
  0xe49b69c1, 0xefbe4786, 0x0fc19dc6, 0x240ca1cc, 0x2de92c6f, 0x4a7484aa, 0x5cb0a9dc, 0x76f988da,
  0x983e5152, 0xa831c66d, 0xb00327c8, 0xbf597fc7, 0xc6e00bf3, 0xd5a79147, 0x06ca6351, 0x14292967,
  0x27b70a85, 0x2e1b2138, 0x4d2c6dfc, 0x53380d13, 0x650a7354, 0x766a0abb, 0x81c2c92e, 0x92722c85,
  0xa2bfe8a1, 0xa81a664b, 0xc24b8b70, 0xc76c51a3, 0xd192e819, 0xd6990624, 0xf40e3585, 0x106aa070,
  0x19a4c116, 0x1e376c08, 0x2748774c, 0x34b0bcb5, 0x391c0cb3, 0x4ed8aa4a, 0x5b9cca4f, 0x682e6ff3,
  0x748f82ee, 0x78a5636f, 0x84c87814, 0x8cc70208, 0x90befffa, 0xa4506ceb, 0xbef9a3f7, 0xc67178f2]
/-- Eight words. -/
structure S8 where
  a : UInt32
  b : UInt32
  c : UInt32
  d : UInt32
  e : UInt32
  f : UInt32
  g : UInt32
  h : UInt32
instance : Inhabited S8 := ⟨⟨0, 0, 0, 0, 0, 0, 0, 0⟩⟩
def shaB : S8 := ⟨0x6a09e667, 0xbb67ae85, 0x3c6ef372, 0xa54ff53a, 0x510e527f, 0x9b05688c, 0x1f83d9ab, 0x5be0cd19⟩
/-- The next word of a block: the block's own ones, then mixed ones; w: the words that there are. -/
def be4 (x : List UInt8) (i : Nat) : UInt32 := ((((gt x (4 * i)).toUInt32 <<< UInt32.ofNat 24) ||| ((gt x (4 * i + 1)).toUInt32 <<< UInt32.ofNat 16)) ||| ((gt x (4 * i + 2)).toUInt32 <<< UInt32.ofNat 8)) ||| (gt x (4 * i + 3)).toUInt32
def shaLow (a : UInt32) : UInt32 := (rotr a 7 ^^^ rotr a 18) ^^^ (a >>> UInt32.ofNat 3)
def shaHigh (b : UInt32) : UInt32 := (rotr b 17 ^^^ rotr b 19) ^^^ (b >>> UInt32.ofNat 10)
def shaNext (x : List UInt8) (w : List UInt32) (i : Nat) : UInt32 := if i < 16 then be4 x i else ((gt w (i - 16) + shaLow (gt w (i - 15))) + gt w (i - 7)) + shaHigh (gt w (i - 2))
def shaWs (x : List UInt8) : Nat → List UInt32
  | 0 => []
  | n + 1 => shaWs x n ++ [shaNext x (shaWs x n) n]
theorem shaWs_len (x : List UInt8) : ∀ n, (shaWs x n).length = n
  | 0 => rfl
  | n + 1 => by simp [shaWs, shaWs_len x n]
theorem shaWs_take (x : List UInt8) {n : Nat} : ∀ {m : Nat}, n ≤ m → (shaWs x m).take n = shaWs x n
  | 0, h => by obtain rfl : n = 0 := by omega
               rfl
  | m + 1, h => by
    rcases Nat.lt_or_ge n (m + 1) with h1 | h1
    · rw [shaWs, List.take_append_of_le_length (by rw [shaWs_len]; omega), shaWs_take x (by omega)]
    · obtain rfl : n = m + 1 := by omega
      rw [List.take_of_length_le (by rw [shaWs_len]; omega)]
def shaOne (t : S8) (k w : UInt32) : UInt32 := (((t.h + ((rotr t.e 6 ^^^ rotr t.e 11) ^^^ rotr t.e 25)) + ((t.e &&& t.f) ^^^ (~~~t.e &&& t.g))) + k) + w
def shaTwo (t : S8) : UInt32 := ((rotr t.a 2 ^^^ rotr t.a 13) ^^^ rotr t.a 22) + (((t.a &&& t.b) ^^^ (t.a &&& t.c)) ^^^ (t.b &&& t.c))
def shaStep (t : S8) (k w : UInt32) : S8 := ⟨shaOne t k w + shaTwo t, t.a, t.b, t.c, t.d + shaOne t k w, t.e, t.f, t.g⟩
/-- A state behind the first n rounds of a block. -/
def shaRun (s : S8) (x : List UInt8) : Nat → S8
  | 0 => s
  | n + 1 => shaStep (shaRun s x n) (gt shaK n) (gt (shaWs x 64) n)
def addS8 (s t : S8) : S8 := ⟨t.a + s.a, t.b + s.b, t.c + s.c, t.d + s.d, t.e + s.e, t.f + s.f, t.g + s.g, t.h + s.h⟩
def shaMix (s : S8) (x : List UInt8) : S8 := addS8 s (shaRun s x 64)
/-- A state behind as many whole blocks as there are. -/
def shaAll (s : S8) (l : List UInt8) : S8 := if h : 64 ≤ l.length then shaAll (shaMix s (l.take 64)) (l.drop 64) else s
  termination_by l.length
  decreasing_by simp only [List.length_drop]; omega
def shaLeft (l : List UInt8) : List UInt8 := l.drop (l.length / 64 * 64)
def shaTail (n : Nat) : List UInt8 := 128 :: List.replicate ((119 - n % 64) % 64) 0 ++ (List.range 8).map fun i => UInt8.ofNat (8 * n / 2 ^ (8 * (7 - i)))
def S8.l (s : S8) : List UInt32 := [s.a, s.b, s.c, s.d, s.e, s.f, s.g, s.h]
/-- The hash of bytes, as an id. -/
def shaF (l : List UInt8) : Nat → Int := fun i => if i < 32 then (((gt (shaAll shaB (l ++ shaTail l.length)).l (i / 4) >>> UInt32.ofNat (24 - 8 * (i % 4))).toUInt8.toNat : Nat) : Int) else 0
theorem shaF_can (l : List UInt8) : IdCan (shaF l) := fun i hi => by unfold shaF; rw [if_neg (by omega)]
theorem shaF_ok (l : List UInt8) : IdOk (shaF l) := fun i => by
  unfold shaF; split
  · have := blt8 ((gt (shaAll shaB (l ++ shaTail l.length)).l (i / 4) >>> UInt32.ofNat (24 - 8 * (i % 4))).toUInt8); omega
  · omega
end Go.Mv

namespace Go.Mv
open Go Go.Proofs
def wfL (n : Nat) (f : Nat → UInt32) : List Value := (List.range n).map fun i => wdV (f i)
def wfV (n : Nat) (f : Nat → UInt32) : Value := .agg (wfL n f).toArray
def bfL (n : Nat) (f : Nat → UInt8) : List Value := (List.range n).map fun i => bcell (f i)
def bfV (n : Nat) (f : Nat → UInt8) : Value := .agg (bfL n f).toArray
theorem wfL_len (n : Nat) (f : Nat → UInt32) : (wfL n f).length = n := by simp [wfL]
theorem bfL_len (n : Nat) (f : Nat → UInt8) : (bfL n f).length = n := by simp [bfL]
theorem wfL_get {n : Nat} (f : Nat → UInt32) {i : Nat} (h : i < n) : (wfL n f)[i]? = some (wdV (f i)) := by
  simp [wfL, h]
theorem bfL_get {n : Nat} (f : Nat → UInt8) {i : Nat} (h : i < n) : (bfL n f)[i]? = some (bcell (f i)) := by
  simp [bfL, h]
theorem wf_get {n : Nat} {f : Nat → UInt32} {z : Int} (k : Nat) (hz : z.toNat = k) (hk : k < n) : cget (wfV n f).cells (0 + z.toNat * 1) = some (.int .u32 ((f k).toNat : Int)) := by
  rw [cget_eq, hz, Nat.zero_add, Nat.mul_one]
  show (wfL n f).toArray[k]? = _
  rw [List.getElem?_toArray, wfL_get f hk]; rfl
theorem bf_get {n : Nat} {f : Nat → UInt8} {z : Int} (k : Nat) (hz : z.toNat = k) (hk : k < n) : cget (bfV n f).cells (0 + z.toNat * 1) = some (.int .u8 ((f k).toNat : Int)) := by
  rw [cget_eq, hz, Nat.zero_add, Nat.mul_one]
  show (bfL n f).toArray[k]? = _
  rw [List.getElem?_toArray, bfL_get f hk]; rfl
theorem wf_cell {n : Nat} {f : Nat → UInt32} (k : Nat) (hk : k < n) : cget (wfV n f).cells k = some (.int .u32 ((f k).toNat : Int)) := by
  rw [cget_eq]
  show (wfL n f).toArray[k]? = _
  rw [List.getElem?_toArray, wfL_get f hk]; rfl
def upd {α : Type} (f : Nat → α) (k : Nat) (y : α) : Nat → α := fun i => if i = k then y else f i
theorem upd_same {α : Type} {f : Nat → α} {k : Nat} {y : α} : upd f k y k = y := if_pos rfl
theorem upd_other {α : Type} {f : Nat → α} {k i : Nat} {y : α} (h : i ≠ k) : upd f k y i = f i := if_neg h
theorem wfL_set (n : Nat) (f : Nat → UInt32) (k : Nat) (y : UInt32) : (wfL n f).set k (wdV y) = wfL n (upd f k y) := by
  apply List.ext_getElem?
  intro i
  rw [List.getElem?_set, wfL_len]
  by_cases hi : i < n
  · rw [wfL_get _ hi, wfL_get _ hi]
    by_cases h : k = i
    · subst h; rw [if_pos rfl, if_pos hi, upd_same]
    · rw [if_neg h, upd_other (Ne.symm h)]
  · rw [List.getElem?_eq_none (l := wfL n (upd f k y)) (by rw [wfL_len]; omega), List.getElem?_eq_none (l := wfL n f) (by rw [wfL_len]; omega)]
    split
    · rw [if_neg (by omega)]
    · rfl
theorem wf_put {n : Nat} {f : Nat → UInt32} {z : Int} (k : Nat) (hz : z.toNat = k) (y : UInt32) : (wfV n f).cells.setIfInBounds (0 + z.toNat * 1) (.int .u32 (y.toNat : Int)) = (wfV n (upd f k y)).cells := by
  rw [hz, Nat.zero_add, Nat.mul_one]
  apply Array.toList_inj.1
  show ((wfL n f).toArray.setIfInBounds k (wdV y)).toList = wfL n (upd f k y)
  rw [Array.toList_setIfInBounds, ← wfL_set]
theorem wf_lt {n : Nat} {f : Nat → UInt32} {z : Int} (k : Nat) (hz : z.toNat = k) (hk : k < n) : Nat.blt (0 + z.toNat * 1) (wfV n f).cells.size = true := by
  have : (wfV n f).cells.size = n := by show (wfL n f).toArray.size = n; rw [List.size_toArray, wfL_len]
  rw [this, hz, Nat.zero_add, Nat.mul_one]
  exact Nat.ble_eq_true_of_le hk
theorem wf_all (n : Nat) (f : Nat → UInt32) : Value.agg ((wfV n f).cells.extract 0 (0 + n)) = wfV n f := by
  show Value.agg ((wfL n f).toArray.extract 0 (0 + n)) = .agg (wfL n f).toArray
  rw [Nat.zero_add]
  congr 1
  have : n = (wfL n f).toArray.size := by rw [List.size_toArray, wfL_len]
  conv => lhs; arg 3; rw [this]
  rw [Array.extract_size]
theorem bf_all (n : Nat) (f : Nat → UInt8) : Value.agg ((bfV n f).cells.extract 0 (0 + n)) = bfV n f := by
  show Value.agg ((bfL n f).toArray.extract 0 (0 + n)) = .agg (bfL n f).toArray
  rw [Nat.zero_add]
  congr 1
  have : n = (bfL n f).toArray.size := by rw [List.size_toArray, bfL_len]
  conv => lhs; arg 3; rw [this]
  rw [Array.extract_size]
theorem wf_one (n : Nat) (f : Nat → UInt32) : ((wfV n f).cells.toList.all fun u => u.oneCell') = true := by
  show ((wfL n f).toArray.toList.all fun u => u.oneCell') = true
  rw [List.toList_toArray, List.all_eq_true]
  intro v hv
  obtain ⟨i, _, rfl⟩ := List.mem_map.1 hv
  rfl
theorem wfL_congr {n : Nat} {f g : Nat → UInt32} (h : ∀ i, i < n → f i = g i) : wfL n f = wfL n g := by
  apply List.map_congr_left
  intro i hi
  rw [h i (List.mem_range.1 hi)]
theorem wfV_congr {n : Nat} {f g : Nat → UInt32} (h : ∀ i, i < n → f i = g i) : wfV n f = wfV n g := by rw [wfV, wfV, wfL_congr h]
/-- A turn to the left by less than nothing. -/
theorem bits_and31 : ∀ n : Fin 32, 1 ≤ n.val → bits .and .u64 (IntKind.u64.wrap (-((n.val : Nat) : Int))) 31 = ((32 - n.val : Nat) : Int) := by decide
section rd
variable {P : Program} {ty : TypeId} {E : Env} {L : Mem} {v u : Value} {x y z : Operand} {T U : TypeId} {a b : UInt32}
theorem RD.rotk {n : Nat} (h1 : 1 ≤ n) (h2 : n < 32) (hx : evalE E x = some (.int .u64 (IntKind.u64.wrap (-(n : Int))))) (hy : evalE E y = some (.int .u64 31)) : RD P (.binOp .and T x y U) ty E L (.int .u64 ((32 - n : Nat) : Int)) :=
  RD.bin .and (fun w => by rw [← bits_and31 ⟨n, h2⟩ h1]; simp [eqGuard, binOp, intBits_eq]) hx hy
/-- A cell of an array's own value. -/
theorem RD.indexV {len : Nat} {el : TypeId} {cs : Array Value} {k : IntKind} {i : Nat} {z : Int} (hT : P.underlying T = some (.array len el)) (hz : ∀ w, (sizeOf el).run P w = .ok 1 w) (ha : ∀ w, (isAgg el).run P w = .ok false w) (hx : evalE E x = some (.agg cs)) (hy : evalE E y = some (.int k z)) (hzi : z = (i : Int)) (hi : i < len) (hv : cget cs i = some v) : RD P (.index T x y) ty E L v := fun ρ w _ _ _ _ hρ _ => by
  subst hzi
  rw [cget_eq] at hv
  have h1 : (i : Int) < (len : Int) := by omega
  simp [execOp, hρ _ _ hx, hρ _ _ hy, Instr.index, asIntOf, run_underlying hT, hz, part, ha, hv]
  omega
end rd
section done
variable {P : Program} {fn : Func} {E : Env} {H : Mem} {post : Value → Mem → Prop} {X : List Nat}
/-- The end of a function that bears a mark of a range; results out of slots and cells. -/
theorem pn_doneFC {l : List ResultVar} {vs : List Value} {H1 : Mem} {w0 : World} {N : Nat} (D : Nat) (A : Mem) (hA : ∀ a, cnt a ((D, .deferred (some [])) :: A) ≤ cnt a H) (hl : fn.results = l.toArray) (hv : resF P E A l vs) (hp : post (tupV vs) H1) (hH : ∀ w, Hp A w → Hp H1 w) (hn : ∀ e ∈ H1, e.1 ∈ X ∨ w0.heap.size ≤ e.1) (hD : w0.heap.size ≤ D) :
    PN ⟨N, [{ target := .collected D, args := #[] }], w0, X⟩ (retP P fn (Ret w0 X post)) E H := fun a w' hr hs => by
  unfold retP
  rw [hr.defers]
  have hpm : Hp ((D, .deferred (some [])) :: A) w' := hs.hp.sp hA
  have hget : w'.heap[D]? = some (.deferred (some [])) := hpm.at_ (D, _) (by simp)
  refine ⟨by simp, .inl ⟨D, _, rfl, run_takeDeferred hget, ?_⟩⟩
  have hp2 : Hp A (w'.putObj D (.deferred none)) := (hpm.putObj (o' := .deferred none)).sub (List.sublist_cons_self _ _)
  exact ⟨_, resultsF_run hr _ hp2 hl hv, _, H1, rfl, hp, hs.fr.putObj D _ (.inr hD), hH _ hp2, hn⟩
end done
def gtf {α : Type} [Inhabited α] (l : List α) : Nat → α := fun i => gt l i
end Go.Mv
