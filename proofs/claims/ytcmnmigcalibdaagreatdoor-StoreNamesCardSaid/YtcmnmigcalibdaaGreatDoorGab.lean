import Derived.Test.YtcmnmigcalibdaaGreatDoorGaa
import Derived.RangeFuncRecord
import Derived.Laws.StructEq
import Derived.ChangeKeysEq
import Derived.Laws.RangeString
import Derived.Lib.SplitLaws
import Derived.Shelf.Strings.Split
import Derived.Scope
import Derived.Laws.IdiomStrings
namespace Go.Mv
open Go
/-- P1.1: a number's bytes. -/
def lebL (n : Nat) : List UInt8 := if h : n < 128 then [UInt8.ofNat n] else UInt8.ofNat (n % 128 + 128) :: lebL (n / 128)
  termination_by n
  decreasing_by omega

theorem lebL_small {n : Nat} (h : n < 128) : lebL n = [UInt8.ofNat n] := by rw [lebL, dif_pos h]
theorem lebL_big {n : Nat} (h : ¬ n < 128) : lebL n = UInt8.ofNat (n % 128 + 128) :: lebL (n / 128) := by rw [lebL, dif_neg h]
theorem bcell_of {a : Int} {n : Nat} (h : a = n) (hn : n < 256) : Value.int .u8 a = bcell (UInt8.ofNat n) := by
  subst h; unfold bcell
  rw [UInt8.toNat_ofNat_of_lt' hn]
end Go.Mv
namespace Go.Mv
open Go
theorem Hp.pickT {A T : Mem} {w : World} (h : Hp (A ++ T) w) {is : List Nat} (hlt : (is.all fun i => Nat.blt i A.length) = true) (hn : nodupN is = true) : Hp (Mv.pick A is ++ T) w :=
  (h.left.pick hlt hn).append h.right (fun a ha b hb => by
    obtain ⟨i, _, hi⟩ := pick_mem hlt a ha
    exact (List.pairwise_append.1 h.ne).2.2 a (List.mem_of_getElem? hi) b hb)

section code
variable {P : Program} {rd : Option Nat} {p : Pst} {C : Ctx} {E : Env} {H : Mem} {ops : Array Oper} {id : Nat}
/-- The same where the list's end is not told. -/
theorem pn_drawT (q : List Nat) (is js : List Nat) {n : Nat} (A T : Mem) (hH : H = A ++ T) (hn : ops.size = n) (hm : P.follows .mixedOrders = true) (hc : chk ops (ld ops q) (Region.before ops) = true)
    (h1 : ((is ++ js).all fun i => Nat.blt i A.length) = true) (h2 : nodupN (is ++ js) = true) (h : TE P rd ops p q C (pick A js ++ T) (line 0 n) E (pick A is)) : PN C (WP P rd (.region id ops true) p) E H := fun a w hr hs => by
  have hp : Hp (pick A (is ++ js) ++ T) w := (hH ▸ hs.hp).pickT h1 h2
  have happ : ∀ (l : List Nat), pick A (l ++ js) = pick A l ++ pick A js := fun l => by induction l with
    | nil => rfl
    | cons i l ih => simp [pick, ih]
  rw [happ, List.append_assoc] at hp
  refine wp_draw hm hc hp.right.drew ?_
  rw [hn, List.range_eq_range', ← TT_line]
  exact h a w.drew hr ⟨hs.fr.drew, hp.drew⟩
theorem pn_pickT (is : List Nat) {K : Act → World → Prop} (A T : Mem) (hH : H = A ++ T) (h1 : (is.all fun i => Nat.blt i A.length) = true) (h2 : nodupN is = true) (h : PN C K E (pick A is ++ T)) : PN C K E H :=
  fun a w hr hs => h a w hr ⟨hs.fr, (hH ▸ hs.hp).pickT h1 h2⟩
end code
abbrev SnkS := Option (Nat × Nat × List Value)
def SnkOk (l : List UInt8) : SnkS → Prop
  | none => l = []
  | some (_, cap, tl) => l.length ≤ cap ∧ cap ≤ maxLen ∧ (bcells l ++ tl).length = cap * 1

theorem u64_of {x : Int} (h0 : 0 ≤ x) (h1 : x < 18446744073709551616) : Value.int .u64 (IntKind.u64.wrap x) = .int .u64 ((x.toNat : Nat) : Int) := by
  rw [u64_wrap, Int.emod_eq_of_lt h0 h1, Int.toNat_of_nonneg h0]

theorem pn_endR {C : Ctx} {E : Env} {H : Mem} {σ : Type} {l : Nat} {HJ : σ → Mem} {s : σ} {R : Mem} {G : σ → Prop} (s' : σ) (hX : C.X = l :: keys (HJ s)) (hG : G s') (hH : ∀ w, Hp H w → Hp (HJ s' ++ R) w) (hn : ∀ e ∈ HJ s', e.1 ∈ keys (HJ s) ∨ C.w0.heap.size ≤ e.1) :
    PN C (EndR C.w0 l HJ s R G) E H := fun _ w _ hs => ⟨s', hG, ⟨hX ▸ hs.fr, hH w hs.hp⟩, hn⟩
theorem maxLen_ge {n : Nat} (h : n ≤ 9223372036854775807) : n ≤ maxLen := h
theorem in_keys {H : Mem} {n : Nat} : ∀ e ∈ H, e.1 ∈ keys H ∨ n ≤ e.1 := fun e he => .inl (mem_keys.2 ⟨e, he, rfl⟩)
end Go.Mv
namespace Go.Mv
open Go
section rd
variable {P : Program} {ty : TypeId} {E : Env} {L : Mem} {v : Value} {x y : Operand} {sT el : TypeId}
/-- append of nothing. -/
theorem RD.append0 {sz by' : Nat} {z : Value} {a a' : Option Addr} {n cap c : Nat} (hT : P.underlying sT = some (.slice el)) (hI : ElI P el sz by' z) (hx : evalE E x = some (.slice a n cap)) (hy : evalE E y = some (.slice a' 0 c)) (hn : n ≤ cap) :
    RD P (.call ⟨.builtin .append, #[x, y], #[sT, sT]⟩) ty E L (.slice a n cap) := by
  obtain ⟨i0, hi0, hz0, hz1, hz2⟩ := info_parts hI
  refine RD.call_builtin (vs := [.slice a n cap, .slice a' 0 c]) (by simp [evalL, hx, hy]) (fun w _ => ?_)
  have hTu := fun w => run_underlying (w := w) hT
  cases a <;> cases a' <;> simp [builtin, Builtin.append_, hTu, sizeOf, typeInfo, hi0, Builtin.lenOf, Builtin.firstCells, hn, storeCells, loadCells, loadCellsFrom]
end rd
/-- A slice of bytes that can be read. -/
def BytesIn (H : Mem) (xv : Value) (ys : List UInt8) : Prop :=
  ∃ a c, xv = .slice a ys.length c ∧ (ys ≠ [] → ∃ ad, a = some ad ∧ ∀ w, Hp H w → ∀ j u, (bcells ys)[j]? = some u → w.cell? (ad.add j) = some u)

theorem BytesIn.blk {H : Mem} {i b c : Nat} {ys : List UInt8} {tl : List Value} {t : TypeId} {fz : Nat × Nat} (hi : H[i]? = some (b, .cells (bcells ys ++ tl).toArray t fz)) : BytesIn H (.slice (some ⟨b, 0, none⟩) ys.length c) ys :=
  ⟨_, c, rfl, fun _ => ⟨_, rfl, fun w hs j u hj => by
    have hadd : (⟨b, 0, none⟩ : Addr).add j = ⟨b, j, none⟩ := by
      unfold Addr.add; split
      · rename_i h; simp
      · simp
    rw [hadd]
    simp only [World.cell?, hs.get hi]
    obtain ⟨hlt, _⟩ := List.getElem?_eq_some_iff.1 hj
    simp [List.getElem?_append_left hlt, hj]⟩⟩

theorem BytesIn.nil {H : Mem} : BytesIn H (.slice none 0 0) [] := ⟨none, 0, rfl, fun h => absurd rfl h⟩
theorem BytesIn.mono {H H' : Mem} {xv : Value} {ys : List UInt8} (h : BytesIn H xv ys) (hs : ∀ w, Hp H' w → Hp H w) : BytesIn H' xv ys := by
  obtain ⟨a, c, e, h⟩ := h
  refine ⟨a, c, e, fun hn => ?_⟩
  obtain ⟨ad, ha, hr⟩ := h hn
  exact ⟨ad, ha, fun w hw => hr w (hs w hw)⟩
theorem BytesIn.src {H : Mem} {C : Ctx} {a : Option Addr} {c : Nat} {ys : List UInt8} (h : BytesIn H (.slice a ys.length c) ys) (hn : ys ≠ []) {H' : Mem} (hs : ∀ w, Hp H' w → Hp H w) : Src C H' (.slice a ys.length c) ys.length (bcells ys) := by
  obtain ⟨a', c', e, h⟩ := h
  simp only [Value.slice.injEq, true_and] at e
  obtain ⟨rfl, rfl⟩ := e
  obtain ⟨ad, rfl, hr⟩ := h hn
  exact ⟨ad, c, rfl, fun w hw => hr w (hs w hw.hp)⟩

/-- New bytes: what slices.Clone and the like hand back. -/
def RetB (u : TypeId) (v : Value) (H1 : Mem) (ys : List UInt8) : Prop :=
  (∃ b cap tl, v = .slice (some ⟨b, 0, none⟩) ys.length cap ∧ H1 = [(b, .cells (bcells ys ++ tl).toArray u (0, 0))] ∧ ys.length ≤ cap ∧ cap ≤ maxLen ∧ (bcells ys ++ tl).length = cap * 1) ∨ (v = .slice none 0 0 ∧ H1 = [] ∧ ys = [])

theorem RetB.bytes {u : TypeId} {v : Value} {H1 : Mem} {ys : List UInt8} (h : RetB u v H1 ys) : BytesIn H1 v ys := by
  rcases h with ⟨b, cap, tl, rfl, rfl, _⟩ | ⟨rfl, rfl, rfl⟩
  · exact BytesIn.blk (i := 0) rfl
  · exact BytesIn.nil

section te
variable {P : Program} {rd : Option Nat} {ops : Array Oper} {p : Pst} {q : List Nat} {C : Ctx} {L M : Mem} {k : Nat} {tr : Tr} {E : Env}
variable {d : Nat} {ty : TypeId} {ps : String} {af : Array Edge} {g : Option (Nat × Bool)}
theorem TE_callT {f : Operand} {xs : Array Operand} {ats : Array TypeId} {fid : FuncId} {fs cap : Array Value} {vs : List Value} {post : Value → Mem → Prop} (A R : Mem) (hM : M = A ++ R) (ho : ops[k]? = some ⟨some d, .call ⟨.value f, xs, ats⟩, ty, ps, af, g⟩) (hl : ld ops q k = true) (hg : GOK ops E g)
    (hen : ∀ args w, (callFunc fid args).run P w = .ok (.enter fid args) w) (hf : evalE E f = some (.func (.func fid) fs cap)) (ha : evalL E xs.toList = some vs) (hd : Nat.blt d C.N = true)
    (hX : ∀ e ∈ R, C.w0.heap.size ≤ e.1 ∨ e.1 ∈ C.X)
    (hc : ∀ w, St C.w0 C.X (A ++ R ++ L) w → Calls P fid (fs.toList ++ vs ++ cap.toList).toArray w (Ret w (keys R) post))
    (h : ∀ v H1, post v H1 → (∀ e ∈ H1, C.w0.heap.size ≤ e.1 ∨ e.1 ∈ C.X) → TE P rd ops p q C L tr ((d, v) :: E) (A ++ H1)) : TE P rd ops p q C L (.op k tr) E M :=
  TE_callS A.length ho hl hg hen hf ha hd (A := A) (R := R) (by rw [hM]; simp) (by rw [hM]; simp) hX (fun w hs => hc w (hM ▸ hs)) h
end te
theorem where_ {H : Mem} {X : List Nat} {n : Nat} (h : ∀ e ∈ H, n ≤ e.1 ∨ e.1 ∈ X) : ∀ e ∈ H, e.1 ∈ X ∨ n ≤ e.1 := fun e he => (h e he).symm

theorem u64_len {n : Nat} (h : n < 18446744073709551616) : Value.int .u64 (IntKind.u64.wrap (n : Int)) = .int .u64 (n : Int) := by
  rw [u64_wrap, Int.emod_eq_of_lt (by omega) (by omega)]

section rd2
variable {P : Program} {ty : TypeId} {E : Env} {L : Mem} {v u z' : Value} {x y z : Operand} {T U : TypeId} {k : IntKind} {m n : Int}
/-- A part of an array, from its begin. -/
theorem RD.sliceA {b off n sz : Nat} {el : TypeId} {hi : Option Operand} {h : Nat} (hT : ∀ w, (underlying T).run P w = .ok (.array n el) w) (hz : ∀ w, (sizeOf el).run P w = .ok sz w) (hx : evalE E x = some (.pointer (some ⟨b, off, none⟩)))
    (hhi : match hi with | none => h = n | some o => ∃ k, evalE E o = some (.int k h)) (h1 : h ≤ n) :
    RD P (.slice T x none hi none) ty E L (.slice (some ⟨b, off, none⟩) h n) := fun ρ w _ _ _ _ hρ _ => by
  cases hi with
  | none => subst hhi; simp [execOp, Instr.sliceAt, Instr.sureAddr, Instr.sliceBounds, hT, hz, hρ _ _ hx, Addr.add]
  | some o =>
    obtain ⟨k, ho⟩ := hhi
    simp [execOp, Instr.sliceAt, Instr.sureAddr, Instr.sliceBounds, Instr.sliceBound, asIntOf, hT, hz, hρ _ _ hx, hρ _ _ ho, Addr.add, h1]
theorem string_beq (a b : ByteArray) : (a.toList == b.toList) = decide (a = b) := by
  rw [ByteArray.toList_eq, ByteArray.toList_eq]
  by_cases h : a = b
  · subst h; simp
  · have : ¬ a.data.toList = b.data.toList := fun h' => h (ByteArray.ext (Array.toList_inj.1 h'))
    rw [decide_eq_false h]; simpa using this
theorem RD.eql_string {a b : ByteArray} (hx : evalE E x = some (.string a)) (hy : evalE E y = some (.string b)) : RD P (.binOp .eql T x y U) ty E L (.bool (decide (a = b))) :=
  RD.bin .eql (fun w => by simp [eqGuard, binOp, Op.stringOp, string_beq]) hx hy
end rd2
end Go.Mv
namespace Go.Mv
open Go
/-- The first n are the same. -/
def sameN (n : Nat) (f g : Nat → Int) : Bool := (List.range n).all fun i => f i == g i
theorem sameN_iff {n : Nat} {f g : Nat → Int} : sameN n f g = true ↔ ∀ i, i < n → f i = g i := by simp [sameN]

section
variable {P : Program} {ty : TypeId} {E : Env} {L : Mem} {v u z' : Value} {x y z : Operand} {T U el : TypeId} {k k' : IntKind} {m n : Int}
theorem eqItems_ints {e : TypeId} {xs ys : Array Value} {f g : Nat → Int} {d : Nat} (he : P.underlying e = some (.int k')) (ha : ∀ w, (isAgg e).run P w = .ok false w) (hc : P.cellsOf e = 1) (w : World) : ∀ (is : List Nat), (∀ i ∈ is, xs[i]? = some (.int k (f i)) ∧ ys[i]? = some (.int k (g i))) →
    (Op.eqItems (d + 1) e (P.cellsOf e) xs ys is).run P w = .ok (is.all fun i => f i == g i) w
  | [], _ => by simp [Op.eqItems]
  | i :: is, h => by
    obtain ⟨h1, h2⟩ := h i (by simp)
    have ih := eqItems_ints (d := d) he ha hc w is (fun j hj => h j (by simp [hj]))
    have p1 : (part e xs (i * P.cellsOf e)).run P w = .ok (.int k (f i)) w := by simp [part, ha, hc, h1]
    have p2 : (part e ys (i * P.cellsOf e)).run P w = .ok (.int k (g i)) w := by simp [part, ha, hc, h2]
    simp only [Op.eqItems, Sem.run_bind, p1, p2, Result.andThen_ok, run_equalIn_int w d e k k' _ _ he]
    cases hfg : f i == g i
    · simp [hfg]
    · simp [hfg, ih]

theorem eqIn_ints {n : Nat} {i : TypeInfo} {xs ys : Array Value} {f g : Nat → Int} {d : Nat} (hu : P.underlying T = some (.array n el)) (hi : P.info? el = some i) (he : P.underlying el = some (.int k')) (ha : ∀ w, (isAgg el).run P w = .ok false w) (hc : P.cellsOf el = 1)
    (h : ∀ i, i < n → xs[i]? = some (.int k (f i)) ∧ ys[i]? = some (.int k (g i))) (w : World) : (Op.equalIn (d + 2) T (.agg xs) (.agg ys)).run P w = .ok (sameN n f g) w := by
  rw [run_equalIn_array w (d + 1) xs ys hu hi]
  exact eqItems_ints he ha hc w _ (fun j hj => h j (by simpa using hj))

/-- == of values with several cells. -/
theorem RD.eql_agg {xs ys : Array Value} {b : Bool} (hg : P.eqGuardType P.depth T = false) (h : ∀ w, (Op.equalIn 10000 T (.agg xs) (.agg ys)).run P w = .ok b w) (hx : evalE E x = some (.agg xs)) (hy : evalE E y = some (.agg ys)) : RD P (.binOp .eql T x y U) ty E L (.bool b) :=
  RD.bin .eql (fun w => by
    simp only [Sem.run_bind, run_eqGuard_agg w _ _ _ _ _ _ hg, Result.andThen_ok, binOp, Op.equal, Op.maxDepth, h, Sem.run_pure]) hx hy
theorem RD.neq_agg {xs ys : Array Value} {b : Bool} (hg : P.eqGuardType P.depth T = false) (h : ∀ w, (Op.equalIn 10000 T (.agg xs) (.agg ys)).run P w = .ok b w) (hx : evalE E x = some (.agg xs)) (hy : evalE E y = some (.agg ys)) : RD P (.binOp .neq T x y U) ty E L (.bool (!b)) :=
  RD.bin .neq (fun w => by
    simp only [Sem.run_bind, run_eqGuard_agg w _ _ _ _ _ _ hg, Result.andThen_ok, binOp, Op.equal, Op.maxDepth, h, Sem.run_pure]) hx hy

theorem RD.build {parts : Array (Nat × Operand)} {vs : List (Nat × Value)} (hv : evalP E parts.toList = some vs) (hr : ∀ w, (Instr.build T vs.toArray).run P w = .ok v w) : RD P (.build T parts) ty E L v := fun ρ w _ _ _ _ hρ _ => by
  have e : (parts.map fun (i, x) => (i, ρ x)) = vs.toArray := by apply Array.toList_inj.1; simpa using evalP_map hρ _ _ hv
  simp only [execOp, e, Sem.run_bind, hr, Result.andThen_ok, Sem.run_pure]

variable {d : Nat} {xs ys : Array Value} {f : Field} {fs : List Field} {a b : Value} {r s : Bool} {w : World}
theorem eqF_nil : (Op.eqFields d xs ys []).run P w = .ok true w := by simp [Op.eqFields]
theorem eqF_cons (hn : (f.name == "_") = false) (ha : (part f.type xs f.offset).run P w = .ok a w) (hb : (part f.type ys f.offset).run P w = .ok b w) (he : (Op.equalIn d f.type a b).run P w = .ok r w) (hr : (Op.eqFields d xs ys fs).run P w = .ok s w) :
    (Op.eqFields d xs ys (f :: fs)).run P w = .ok (r && s) w := by
  have hn' : f.name ≠ "_" := by simpa using hn
  rw [Op.eqFields]
  simp only [if_pos hn', Sem.run_bind, ha, hb, he, Result.andThen_ok]
  cases r
  · simp
  · simpa using hr
theorem eqF_of {t : TypeId} {fs : Array Field} (hu : P.underlying t = some (.struct fs)) (hp : P.stoodInHeld t = false) (h : (Op.eqFields d xs ys fs.toList).run P w = .ok r w) : (Op.equalIn (d + 1) t (.agg xs) (.agg ys)).run P w = .ok r w := by
  have hf : P.fieldsOf t = fs := by simp [Program.fieldsOf, hu]
  rw [run_equalIn_struct (P := P) w d t xs ys (by rw [hf]; exact hu) hp, hf]
  exact h
end
end Go.Mv
namespace Go.Mv
open Go
section te
variable {P : Program} {rd : Option Nat} {ops : Array Oper} {p : Pst} {q : List Nat} {C : Ctx} {L M : Mem} {k : Nat} {tr : Tr} {E : Env}
variable {d : Nat} {ty : TypeId} {ps : String} {af : Array Edge} {g : Option (Nat × Bool)}
/-- An operation that puts another object in a block's place. -/
theorem TE_obj {op : Op} {i b : Nat} {o o' : Obj} {v : Value} (ho : ops[k]? = some ⟨some d, op, ty, ps, af, g⟩) (hl : ld ops q k = true) (hg : GOK ops E g) (hnd : notDefer op = true) (hd : Nat.blt d C.N = true) (hi : M[i]? = some (b, o))
    (hrun : ∀ (ρ : Operand → Value) (w : World) dst pos af g, (∀ x u, evalE E x = some u → ρ x = u) → w.heap[b]? = some o → (execOp ρ ⟨dst, op, ty, pos, af, g⟩).run P w = .ok (.value v) (w.putObj b o'))
    (hw : C.w0.heap.size ≤ b ∨ b ∈ C.X) (h : TE P rd ops p q C L tr ((d, v) :: E) (M.set i (b, o'))) : TE P rd ops p q C L (.op k tr) E M :=
  TE_loud ho hl hg hnd fun a w hr hs => by
    have hb := hs.hp.get (i := i) (b := b) (o := o) (by
      obtain ⟨hlt, _⟩ := List.getElem?_eq_some_iff.1 hi
      rw [List.getElem?_append_left hlt]; exact hi)
    rw [hrun a.eval w _ _ _ _ (fun x u hu => hr.eval hu) hb]
    have hlt : b < w.heap.size := (Array.getElem?_eq_some_iff.1 hb).1
    have hst := hs.upd hi (w' := w.putObj b o') (o' := o') (World.putObj_heap_same hlt) (fun k hk => World.putObj_heap_other hk) rfl rfl rfl (by simp) rfl hw
    exact ⟨hst.hp.right, h _ _ (hr.put (by simpa using hd) _) hst⟩

theorem TE_rangeS {T : TypeId} {x : Operand} {s : ByteArray} (ho : ops[k]? = some ⟨some d, .range T x, ty, ps, af, g⟩) (hT : ∀ w, (underlying T).run P w = .ok .string w) (hx : evalE E x = some (.string s)) (hg : GOK ops E g) (hd : Nat.blt d C.N = true)
    (h : ∀ b, C.w0.heap.size ≤ b → TE P rd ops p q C L tr ((d, .pointer (some ⟨b, 0, none⟩)) :: E) ((b, .stringIter s 0) :: M)) : TE P rd ops p q C L (.op k tr) E M :=
  TE_new (vf := fun b => .pointer (some ⟨b, 0, none⟩)) ho (by simp [ld, ho]) hg rfl (fun ρ w _ _ _ _ hρ _ => by simp [execOp, Instr.range, hT, hρ _ _ hx]) hd h

theorem TE_nextS {x : Operand} {i b pos : Nat} {s : ByteArray} (ho : ops[k]? = some ⟨some d, .next x true, ty, ps, af, g⟩) (hx : evalE E x = some (.pointer (some ⟨b, 0, none⟩))) (hg : GOK ops E g) (hd : Nat.blt d C.N = true) (hi : M[i]? = some (b, .stringIter s pos)) (hp : pos < s.size) (hw : C.w0.heap.size ≤ b ∨ b ∈ C.X)
    (h : TE P rd ops p q C L tr ((d, .tuple #[.bool true, .int .i64 pos, .int .i32 (Utf8.decode s pos).1]) :: E) (M.set i (b, .stringIter s (pos + (Utf8.decode s pos).2)))) : TE P rd ops p q C L (.op k tr) E M :=
  TE_obj ho (by simp [ld, ho]) hg rfl hd hi (fun ρ w _ _ _ _ hρ hb => by simp [execOp, Instr.next, hρ _ _ hx, getObj, setObj, Sem.run, hb, hp, Result.andThen, World.putObj, goInt]) hw h
theorem TE_nextE {x : Operand} {i b pos : Nat} {s : ByteArray} (ho : ops[k]? = some ⟨some d, .next x true, ty, ps, af, g⟩) (hx : evalE E x = some (.pointer (some ⟨b, 0, none⟩))) (hg : GOK ops E g) (hd : Nat.blt d C.N = true) (hi : M[i]? = some (b, .stringIter s pos)) (hp : ¬ pos < s.size)
    (h : TE P rd ops p q C L tr ((d, .tuple #[.bool false]) :: E) M) : TE P rd ops p q C L (.op k tr) E M :=
  TE_loud ho (by simp [ld, ho]) hg rfl fun a w hr hs => by
    have hb := hs.hp.get (i := i) (b := b) (o := .stringIter s pos) (by
      obtain ⟨hlt, _⟩ := List.getElem?_eq_some_iff.1 hi
      rw [List.getElem?_append_left hlt]; exact hi)
    have : (execOp a.eval ⟨some d, .next x true, ty, ps, af, g⟩).run P w = .ok (.value (.tuple #[.bool false])) w := by
      simp [execOp, Instr.next, hr.eval hx, getObj, Sem.run, hb, hp, Result.andThen]
    rw [this]
    exact ⟨hs.hp.right, h _ _ (hr.put (by simpa using hd) _) hs⟩
end te
theorem Ret.same {P : Program} {f : FuncId} {args : Array Value} {w : World} {v : Value} (h : Calls P f args w fun e w' => e = .returned v ∧ w' = w) : Calls P f args w (Ret w [] fun x H1 => x = v ∧ H1 = []) :=
  h.mono (by rintro e w' ⟨rfl, rfl⟩; exact ⟨v, [], rfl, ⟨rfl, rfl⟩, Fr.refl _ _, Hp.nil _, by simp⟩)

theorem Ret.new {P : Program} {f : FuncId} {args : Array Value} {w : World} {vf : Nat → Value} {o : Obj} (h : Calls P f args w fun e w' => e = .returned (vf w.heap.size) ∧ w' = w.alloc o) : Calls P f args w (Ret w [] fun x H1 => ∃ b, x = vf b ∧ H1 = [(b, o)]) :=
  h.mono (by
    rintro e w' ⟨rfl, rfl⟩
    refine ⟨_, [(w.heap.size, o)], rfl, ⟨_, rfl, rfl⟩, (Fr.refl w []).alloc o, ⟨fun e he => ?_, by simp⟩, fun e he => ?_⟩
    · simp only [List.mem_cons, List.not_mem_nil, or_false] at he
      subst he; exact heap_alloc_new w o
    · simp only [List.mem_cons, List.not_mem_nil, or_false] at he
      subst he; exact .inr (Nat.le_refl _))

/-- The library's variable MaxLen lies in the block 0. -/
def GOk (g : Obj) : Prop := ∃ cs t fz m, g = .cells cs t fz ∧ cs[0]? = some (.int .i64 m)
theorem GOk.cell {g : Obj} (h : GOk g) {H : Mem} {w : World} (hH : Hp H w) (i : Nat) (hi : H[i]? = some (0, g)) : ∃ m, w.cell? ⟨0, 0, none⟩ = some (.int .i64 m) := by
  obtain ⟨cs, t, fz, m, rfl, hc⟩ := h
  exact ⟨m, (cell_of hH (off := 0) hi).trans hc⟩

/-- A name's parts. -/
def partsOf (s : ByteArray) : List ByteArray := Lib.splitB ⟨#[47]⟩ 0 (Lib.countB s ⟨#[47]⟩) s
end Go.Mv
namespace Go.Mv
open Go
section
variable {F : Fence} {n : Nat} {P : Program} {b : Frame} {a : Act} {k : List Item} {cs : List Frame} {w : World} {Q : Exit → Act → World → Prop}
theorem stepR_scope {c : Code} : step P (lone (b.atR a (.code (.scope c) :: k)) cs w) = .next (lone (b.atR a (.code c :: .inScope c :: k)) cs w) :=
  step_lone_go (by simp [stepG, stepG.exec, Frame.atR])
theorem stepR_inScope {c : Code} : step P (lone (b.atR a (.inScope c :: k)) cs w) = .next (lone (b.atR a k) cs w) :=
  step_lone_go (by simp [stepG, stepG.exec, Frame.atR])

/-- A scope to which no jump leads. -/
theorem wpIn_scope_straight {c : Code} (h : c.wpIn F n P (Exit.noGoto Q) a w) : (Code.scope c).wpIn F n P Q a w := by
  intro b k cs hro hb hr
  have h0 : (lone (b.atR a (.code (.scope c) :: k)) cs w).fenced P F := fenced_calm hb hr rfl
  obtain ⟨e, a₁, w₁, hq, harr⟩ := h b (.inScope c :: k) cs hro hb hr
  cases e with
  | normal => exact ⟨.normal, a₁, w₁, hq, .head h0 stepR_scope (StepsIn.trans harr (.one (fenced_calm hb hr rfl) stepR_inScope))⟩
  | exit id' =>
    have hx : exitTo id' (.inScope c :: k) = exitTo id' k := by simp [exitTo]
    exact ⟨.exit id', a₁, w₁, hq, fun k' hk => .head h0 stepR_scope (harr.1 k' (by rw [hx]; exact hk)),
      fun hr' hk => let ⟨k₁, h1, h2⟩ := harr.2 hr' (by rw [hx]; exact hk); ⟨k₁, h1, .head h0 stepR_scope h2⟩⟩
  | goto l => exact hq.elim
  | ret => exact ⟨_, a₁, w₁, hq, .of_steps (.one h0 stepR_scope) harr⟩
  | panic ch => exact ⟨_, a₁, w₁, hq, .of_steps (.one h0 stepR_scope) harr⟩
  | outgrown => exact ⟨_, a₁, w₁, hq, .of_steps (.one h0 stepR_scope) harr⟩
end
theorem pn_scope {P : Program} {rd : Option Nat} {p : Pst} {C : Ctx} {E : Env} {H : Mem} {c : Code} (h : PN C (WP P rd c { p with g := fun _ _ _ => False }) E H) : PN C (WP P rd (.scope c) p) E H :=
  fun a w hr hs => wpIn_scope_straight (wp_of (fun e a w q => by cases e <;> exact q) (h a w hr hs))
end Go.Mv
namespace Go.Mv
open Go
theorem bytesRow_eq (s : ByteArray) (cap : Nat) : bytesRow s cap = (bcells s.data.toList ++ List.replicate (cap - s.size) (Value.int .u8 0)).toArray := by
  apply Array.toList_inj.1
  simp [bytesRow, bcells]
  exact fun _ _ => rfl

section te
variable {P : Program} {rd : Option Nat} {ops : Array Oper} {p : Pst} {q : List Nat} {C : Ctx} {L M : Mem} {k : Nat} {tr : Tr} {E : Env}
variable {d : Nat} {ty : TypeId} {ps : String} {af : Array Edge} {g : Option (Nat × Bool)}
/-- string(b). -/
theorem RD.str_of_bytes {src dst' el : TypeId} {x : Operand} {xv : Value} {ys : List UInt8} (hS : P.underlying src = some (.slice el)) (hD : P.underlying dst' = some .string) (he : P.underlying el = some (.int .u8)) (hx : evalE E x = some xv) (hb : BytesIn L xv ys) :
    RD P (.convert src dst' x) ty E L (.string ⟨ys.toArray⟩) := fun ρ w _ _ _ _ hρ hL => by
  obtain ⟨a, c, rfl, hr⟩ := hb
  simp only [execOp, hρ _ _ hx]
  cases a with
  | none =>
    have hy : ys = [] := Classical.byContradiction fun h => by obtain ⟨_, h', _⟩ := hr h; cases h'
    subst hy
    simp only [Sem.run_bind, run_convert_bytes_nil w src el hS he _ c dst' hD, Result.andThen_ok, Sem.run_pure]
    rfl
  | some ad =>
    have hc : ∀ j (hj : j < ys.length), w.cell? (ad.add j) = some (.int .u8 (ys[j].toNat : Int)) := fun j hj => by
      obtain ⟨ad', h', hr'⟩ := hr (by intro h; subst h; simp at hj)
      cases h'
      exact hr' w hL j _ (by simp [bcells, bcell, hj])
    simp only [Sem.run_bind, run_convert_bytes_back w src dst' el ad c ys hS he hD hc, Result.andThen_ok, Sem.run_pure]
end te
section code
variable {P : Program} {rd : Option Nat} {p : Pst} {C : Ctx} {E : Env} {H : Mem}
/-- What a piece of code leaves is told by a state. -/
theorem pn_cut {σ : Type} {c : Code} (EE : σ → Env) (HH : σ → Mem) (I : σ → Prop) (h1 : PN C (WP P rd c { p with n := fun a w => ∃ s, I s ∧ Rep C.N C.ds (EE s) a ∧ St C.w0 C.X (HH s) w }) E H) (h2 : ∀ s, I s → PN C p.n (EE s) (HH s)) : PN C (WP P rd c p) E H :=
  fun a w hr hs => wpIn_mono (h1 a w hr hs) (fun e a w q => by
    cases e with
    | normal => obtain ⟨s, hI, hr, hs⟩ := q; exact h2 s hI a w hr hs
    | ret => exact q
    | exit i => exact q
    | goto l => exact q
    | panic c => exact q
    | outgrown => exact q)
theorem pn_give {σ : Type} {EE : σ → Env} {HH : σ → Mem} {I : σ → Prop} (s : σ) (hI : I s) (hE : Keeps E (EE s)) (hH : ∀ w, Hp H w → Hp (HH s) w) : PN C (fun a w => ∃ s, I s ∧ Rep C.N C.ds (EE s) a ∧ St C.w0 C.X (HH s) w) E H :=
  fun _ w hr hs => ⟨s, hI, hr.keeps hE, hs.fr, hH w hs.hp⟩
end code
/-- A tip's bytes. -/
def tipL (t : Nat → Int) : List UInt8 := (List.range 32).map fun i => UInt8.ofNat (t i).toNat
theorem tipL_len (t : Nat → Int) : (tipL t).length = 32 := by simp [tipL]
end Go.Mv
namespace Go.Mv
open Go
section te
variable {P : Program} {rd : Option Nat} {ops : Array Oper} {p : Pst} {q : List Nat} {C : Ctx} {L M : Mem} {k : Nat} {tr : Tr} {E : Env}
variable {d : Nat} {ty : TypeId} {ps : String} {af : Array Edge} {g : Option (Nat × Bool)}
/-- copy of elements of one cell each, out of a slice, into a block that is known. -/
theorem TE_copy {x y : Operand} {dT sT el : TypeId} {by' : Nat} {z : Value} {i b o dLen dCap sLen sCap : Nat} {ad : Addr} {cur : Array Value} {t : TypeId} {cs : List Value} (ho : ops[k]? = some ⟨some d, .call ⟨.builtin .copy, #[x, y], #[dT, sT]⟩, ty, ps, af, g⟩) (hl : ld ops q k = true) (hg : GOK ops E g) (hd : Nat.blt d C.N = true)
    (hT : P.underlying dT = some (.slice el)) (hI : ElI P el 1 by' z) (hx : evalE E x = some (.slice (some ⟨b, o, none⟩) dLen dCap)) (hy : evalE E y = some (.slice (some ad) sLen sCap)) (hn : cs.length = Nat.min sLen dLen)
    (hsrc : ∀ w, Hp (M ++ L) w → ∀ j u, cs[j]? = some u → w.cell? (ad.add j) = some u) (hi : M[i]? = some (b, .cells cur t (0, 0))) (hfit : o + cs.length ≤ cur.size) (h1 : ∀ v ∈ cs, v.oneCell' = true) (hw : C.w0.heap.size ≤ b ∨ b ∈ C.X)
    (h : TE P rd ops p q C L tr ((d, .int .i64 cs.length) :: E) (M.set i (b, .cells (putL cur o cs) t (0, 0)))) : TE P rd ops p q C L (.op k tr) E M :=
  TE_loud ho hl hg rfl fun a w hr hs => by
    obtain ⟨i0, hi0, hz0, hz1, hz2⟩ := info_parts hI
    have hb := hs.hp.get (i := i) (b := b) (o := .cells cur t (0, 0)) (by
      obtain ⟨hlt, _⟩ := List.getElem?_eq_some_iff.1 hi
      rw [List.getElem?_append_left hlt]; exact hi)
    have hload := run_loadCells_list (P := P) w ad cs (hsrc w hs.hp)
    obtain ⟨w', hrun, hb', hk, e1, e2, e3, e4, e5⟩ := run_storeCells_at (P := P) cs cur o 0 w hb (by omega) h1
    have hrun' : (execOp a.eval ⟨some d, .call ⟨.builtin .copy, #[x, y], #[dT, sT]⟩, ty, ps, af, g⟩).run P w = .ok (.value (.int .i64 cs.length)) w' := by
      simp only [execOp, resolve]
      simp [invoke, builtin, hr.eval hx, hr.eval hy, Builtin.copy_, run_underlying hT, Builtin.lenOf, Builtin.firstCells, sizeOf, typeInfo, hi0, hz1, ← hn, hload, hrun, goInt]
    rw [hrun']
    have hst := hs.upd hi hb' hk e1 e2 e3 e4 e5 hw
    exact ⟨hst.hp.right, h _ _ (hr.put (by simpa using hd) _) hst⟩
end te
end Go.Mv
