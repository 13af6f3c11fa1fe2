import Derived.Test.YtloljpefdecmhaaGae
import Derived.Laws.IdiomRangeMap
import Derived.Laws.BitsAllLaws
import Derived.Lib.IndexAny
import Derived.Test.YtloljpefdecmhaaProg
namespace Go.Mv
open Go Go.Proofs
def gt {α : Type} [Inhabited α] (l : List α) (i : Nat) : α := l.getD i default
section gt
variable {α : Type} [Inhabited α] {l m : List α} {i : Nat}
theorem gt_some (h : i < l.length) : l[i]? = some (gt l i) := by
  unfold gt; rw [List.getD_eq_getElem?_getD, List.getElem?_eq_getElem h]; rfl
theorem gt_mem (h : i < l.length) : gt l i ∈ l := List.mem_of_getElem? (gt_some h)
end gt
section code
variable {P : Program} {rd : Option Nat} {p : Pst} {C : Ctx} {E : Env} {H : Mem} {ops : Array Oper} {id : Nat}
theorem pn_plainG (q : List Nat) (M0 : Mem) {n : Nat} (hn : ops.size = n) (hc : ∀ a, cnt a M0 ≤ cnt a H) (h : TE P rd ops p q C [] (line 0 n) E M0) : PN C (WP P rd (.region id ops false) p) E H :=
  pn_sp M0 hc (pn_plain q hn h)
theorem pn_drawG (q : List Nat) (M0 L0 : Mem) {n : Nat} (hn : ops.size = n) (hm : P.follows .mixedOrders = true) (hc : chk ops (ld ops q) (Region.before ops) = true)
    (hs : ∀ a, cnt a (M0 ++ L0) ≤ cnt a H) (h : TE P rd ops p q C L0 (line 0 n) E M0) : PN C (WP P rd (.region id ops true) p) E H :=
  pn_sp (M0 ++ L0) hs fun a w hr hw => by
    refine wp_draw hm hc hw.hp.right.drew ?_
    rw [hn, List.range_eq_range', ← TT_line]
    exact h a w.drew hr ⟨hw.fr.drew, hw.hp.drew⟩
theorem pn_drawLG (q : List Nat) (M0 L0 : Mem) (t : Tr) (hm : P.follows .mixedOrders = true) (hp : plainOps ops = true) (hc : chkL ops (ld ops q) ops.size [(Array.replicate ops.size false, t)] = true)
    (hs : ∀ a, cnt a (M0 ++ L0) ≤ cnt a H) (h : TE P rd ops p q C L0 t E M0) : PN C (WP P rd (.region id ops true) p) E H :=
  pn_sp (M0 ++ L0) hs fun a w hr hw => by
    exact wp_drawT hm hp (chkT_of_L ops (ld ops q) ops.size _ hc (Array.replicate ops.size false, t) List.mem_cons_self) hw.hp.right.drew (h a w.drew hr ⟨hw.fr.drew, hw.hp.drew⟩)
end code
def slp : Value → Nat → Value
  | .slice (some ⟨b, off, _⟩) _ _, o => .pointer (some ⟨b, off + o, none⟩)
  | v, _ => v
section rd
variable {P : Program} {ty : TypeId} {E : Env} {L H : Mem} {v u : Value} {x y z : Operand} {T U : TypeId}
section els
variable {α : Type} {sz : Nat} {enc : α → List Value} {l : List α}
theorem RD.idxR {el : TypeId} {k : IntKind} {i o : Nat} {c : Int} (hT : ∀ w, (underlying T).run P w = .ok (.slice el) w) (hz : ∀ w, (sizeOf el).run P w = .ok sz w) (hx : evalE E x = some v) (hb : Rdx sz enc H v l)
    (hy : evalE E y = some (.int k c)) (hi : c = (i : Int)) (h : i < l.length) (ho : i * sz = o) : RD P (.indexAddr T x y) ty E L (slp v o) := by
  subst ho
  rcases hb with ⟨rfl, rfl⟩ | ⟨b, off, cap, rfl, hcap, hc⟩
  · simp at h
  · exact RD.indexX hT hz hx hy hi h
theorem RD.fldR {f i o o' n : Nat} {fs : Array Field} {fl : Field} (hS : ∀ w, (underlying T).run P w = .ok (.struct fs) w) (hf : fs[f]? = some fl) (ho : o + fl.offset = o') (hz : ∀ w, (sizeOf fl.type).run P w = .ok (n + 1) w)
    (hx : evalE E x = some (slp v o)) (hb : Rdx sz enc H v l) (h : i < l.length) : RD P (.fieldAddr T x f) ty E L (slp v o') := by
  rcases hb with ⟨rfl, rfl⟩ | ⟨b, off, cap, rfl, hcap, hc⟩
  · simp at h
  · exact RD.fieldAddr hS hf (by rw [Nat.add_assoc, ho]) hz hx
theorem RD.ldR {i j o : Nat} {a : α} (ha : ∀ w, (isAgg T).run P w = .ok false w) (hx : evalE E x = some (slp v o)) (hb : Rdx sz enc H v l) (hi : l[i]? = some a) (ho : o = i * sz + j) (hu : (enc a)[j]? = some u)
    (hm : ∀ w, Hp L w → Hp H w) : RD P (.load T x) ty E L u := by
  rcases hb with ⟨rfl, rfl⟩ | ⟨b, off, cap, rfl, hcap, hc⟩
  · simp at hi
  · subst ho
    exact RD.loadC ha hx (fun w hw => by rw [← Nat.add_assoc]; exact hc w (hm w hw) i a hi j u hu)
theorem RD.ldRA {i j o n : Nat} {a : α} {vs : List Value} (ha : ∀ w, (isAgg T).run P w = .ok true w) (hs : ∀ w, (sizeOf T).run P w = .ok n w) (hx : evalE E x = some (slp v o)) (hb : Rdx sz enc H v l) (hi : l[i]? = some a)
    (ho : o = i * sz + j) (hn : vs.length = n) (hu : ∀ t w, vs[t]? = some w → (enc a)[j + t]? = some w) (hv : Value.agg vs.toArray = u) (hm : ∀ w, Hp L w → Hp H w) : RD P (.load T x) ty E L u := by
  subst hv
  rcases hb with ⟨rfl, rfl⟩ | ⟨b, off, cap, rfl, hcap, hc⟩
  · simp at hi
  · subst ho
    exact RD.loadX ha hs hx hn (fun w hw t u ht => by rw [← Nat.add_assoc, Nat.add_assoc (off + i * sz)]; exact hc w (hm w hw) i a hi (j + t) u (hu t u ht))
end els
end rd
section te
variable {P : Program} {rd : Option Nat} {ops : Array Oper} {p : Pst} {q : List Nat} {C : Ctx} {L M : Mem} {k : Nat} {tr : Tr} {E : Env}
variable {d : Nat} {ty : TypeId} {ps : String} {af : Array Edge} {g : Option (Nat × Bool)}
theorem TE_allocC {T : TypeId} {z : Value} (cs : Array Value) (ho : ops[k]? = some ⟨some d, .alloc T, ty, ps, af, g⟩) (hz : ∀ w, (zeroValue T).run P w = .ok z w) (hcs : z.cells = cs) (hg : GOK ops E g) (hd : Nat.blt d C.N = true)
    (h : ∀ b, C.w0.heap.size ≤ b → TE P rd ops p q C L tr ((d, .pointer (some ⟨b, 0, none⟩)) :: E) ((b, .cells cs T (0, 0)) :: M)) : TE P rd ops p q C L (.op k tr) E M := by
  subst hcs; exact TE_alloc ho hz hg hd h
theorem TE_boxC {T : TypeId} {x : Operand} {u : Value} (cs : Array Value) (ho : ops[k]? = some ⟨some d, .box T x, ty, ps, af, g⟩) (hx : evalE E x = some u) (hcs : u.cells = cs) (hg : GOK ops E g) (hd : Nat.blt d C.N = true)
    (h : ∀ b, C.w0.heap.size ≤ b → TE P rd ops p q C L tr ((d, .pointer (some ⟨b, 0, none⟩)) :: E) ((b, .cells cs T (0, 0)) :: M)) : TE P rd ops p q C L (.op k tr) E M := by
  subst hcs; exact TE_box ho hx hg hd h
/-- A store of one cell. -/
theorem TE_storeC {T : TypeId} {x y : Operand} {b off : Nat} {t : TypeId} {v : Value} (i : Nat) (cs cs' : Array Value) (M' : Mem) (ho : ops[k]? = some ⟨none, .store T x y, ty, ps, af, g⟩) (hs : ∀ w, (sizeOf T).run P w = .ok 1 w) (hg : GOK ops E g)
    (hx : evalE E x = some (.pointer (some ⟨b, off, none⟩))) (hy : evalE E y = some v) (h1 : v.cells.toList = [v]) (h1' : v.oneCell' = true) (hi : M[i]? = some (b, .cells cs t (0, 0))) (hlen : Nat.blt off cs.size = true)
    (hcs : cs.setIfInBounds off v = cs') (hM : M.set i (b, .cells cs' t (0, 0)) = M') (hw : C.w0.heap.size ≤ b ∨ b ∈ C.X) (h : TE P rd ops p q C L tr E M') : TE P rd ops p q C L (.op k tr) E M := by
  subst hM; subst hcs; exact TE_store ho hs hg hx hy h1 h1' hi hlen hw h
/-- A store of several. -/
theorem TE_putC {T : TypeId} {x y : Operand} {b off n : Nat} {t : TypeId} {v : Value} (i : Nat) (cs cs' : Array Value) (M' : Mem) (ho : ops[k]? = some ⟨none, .store T x y, ty, ps, af, g⟩) (hs : ∀ w, (sizeOf T).run P w = .ok n w) (hg : GOK ops E g)
    (hx : evalE E x = some (.pointer (some ⟨b, off, none⟩))) (hy : evalE E y = some v) (hn : Nat.beq v.cells.size n = true) (h1 : (v.cells.toList.all fun u => u.oneCell') = true) (hi : M[i]? = some (b, .cells cs t (0, 0))) (hlen : Nat.ble (off + n) cs.size = true)
    (hcs : putL cs off v.cells.toList = cs') (hM : M.set i (b, .cells cs' t (0, 0)) = M') (hw : C.w0.heap.size ≤ b ∨ b ∈ C.X) (h : TE P rd ops p q C L tr E M') : TE P rd ops p q C L (.op k tr) E M := by
  subst hM; subst hcs; exact TE_put ho hs hg hx hy hn h1 hi hlen hw h
/-- .. a whole block. -/
theorem TE_putCW {T : TypeId} {x y : Operand} {b n : Nat} {t : TypeId} {v : Value} (i : Nat) (cs cs' : Array Value) (M' : Mem) (ho : ops[k]? = some ⟨none, .store T x y, ty, ps, af, g⟩) (hs : ∀ w, (sizeOf T).run P w = .ok n w) (hg : GOK ops E g)
    (hx : evalE E x = some (.pointer (some ⟨b, 0, none⟩))) (hy : evalE E y = some v) (hn : Nat.beq v.cells.size n = true) (h1 : (v.cells.toList.all fun u => u.oneCell') = true) (hi : M[i]? = some (b, .cells cs t (0, 0))) (hlen : Nat.beq cs.size n = true)
    (hcs : v.cells = cs') (hM : M.set i (b, .cells cs' t (0, 0)) = M') (hw : C.w0.heap.size ≤ b ∨ b ∈ C.X) (h : TE P rd ops p q C L tr E M') : TE P rd ops p q C L (.op k tr) E M := by
  subst hM; subst hcs; exact TE_putW ho hs hg hx hy hn h1 hi hlen hw h
/-- A call that reads alone; what it lays comes ahead. -/
theorem TE_callG {f : Operand} {xs : Array Operand} {ats : Array TypeId} {fid : FuncId} {fs cap : Array Value} {vs : List Value} (post : Value → Mem → Prop) (H0 : Mem) (ho : ops[k]? = some ⟨some d, .call ⟨.value f, xs, ats⟩, ty, ps, af, g⟩) (hl : ld ops q k = true) (hg : GOK ops E g)
    (hen : ∀ args w, (callFunc fid args).run P w = .ok (.enter fid args) w) (hf : evalE E f = some (.func (.func fid) fs cap)) (ha : evalL E xs.toList = some vs) (hd : Nat.blt d C.N = true)
    (hc : ∀ w, Hp H0 w → Calls P fid (fs.toList ++ vs ++ cap.toList).toArray w (Ret w [] post)) (hs : ∀ a, cnt a H0 ≤ cnt a (M ++ L))
    (h : ∀ v H1, post v H1 → (∀ e ∈ H1, C.w0.heap.size ≤ e.1) → TE P rd ops p q C L tr ((d, v) :: E) (H1 ++ M)) : TE P rd ops p q C L (.op k tr) E M :=
  TE_call ho hl hg hen hf ha hd (fun w hw => hc w (hw.hp.sp hs)) h
/-- A call that turns the blocks of R. -/
theorem TE_callM {f : Operand} {xs : Array Operand} {ats : Array TypeId} {fid : FuncId} {fs cap : Array Value} {vs : List Value} (post : Value → Mem → Prop) (R A H0 : Mem) (ho : ops[k]? = some ⟨some d, .call ⟨.value f, xs, ats⟩, ty, ps, af, g⟩) (hl : ld ops q k = true) (hg : GOK ops E g)
    (hen : ∀ args w, (callFunc fid args).run P w = .ok (.enter fid args) w) (hf : evalE E f = some (.func (.func fid) fs cap)) (ha : evalL E xs.toList = some vs) (hd : Nat.blt d C.N = true)
    (hX : ∀ e ∈ R, C.w0.heap.size ≤ e.1 ∨ e.1 ∈ C.X) (hM : ∀ a, cnt a (A ++ R) ≤ cnt a M)
    (hc : ∀ w, Hp H0 w → Calls P fid (fs.toList ++ vs ++ cap.toList).toArray w (Ret w (keys R) post)) (hs : ∀ a, cnt a H0 ≤ cnt a (A ++ R ++ L))
    (h : ∀ v H1, post v H1 → (∀ e ∈ H1, C.w0.heap.size ≤ e.1 ∨ e.1 ∈ C.X) → TE P rd ops p q C L tr ((d, v) :: E) (A ++ H1)) : TE P rd ops p q C L (.op k tr) E M :=
  TE_callR A R hM ho hl hg hen hf ha hd hX (fun w hw => hc w (hw.hp.sp hs)) h
end te
theorem ownN {C : Ctx} {H : Mem} (h : ∀ e ∈ H, C.w0.heap.size ≤ e.1) : ∀ e ∈ H, C.w0.heap.size ≤ e.1 ∨ e.1 ∈ C.X := fun e he => .inl (h e he)
@[simp] theorem bldVx_none {α : Type} (l : List α) : bldVx l none = .slice none 0 0 := rfl
theorem own0 {n : Nat} {X : List Nat} : ∀ e ∈ ([] : Mem), n ≤ e.1 ∨ e.1 ∈ X := fun _ he => nomatch he
theorem ownC {n : Nat} {X : List Nat} {b : Nat} {o : Obj} {H : Mem} (h1 : n ≤ b ∨ b ∈ X) (h2 : ∀ e ∈ H, n ≤ e.1 ∨ e.1 ∈ X) : ∀ e ∈ (b, o) :: H, n ≤ e.1 ∨ e.1 ∈ X := fun e he => by
  rcases List.mem_cons.1 he with rfl | he
  · exact h1
  · exact h2 e he
theorem ownA {n : Nat} {X : List Nat} {A B : Mem} (h1 : ∀ e ∈ A, n ≤ e.1 ∨ e.1 ∈ X) (h2 : ∀ e ∈ B, n ≤ e.1 ∨ e.1 ∈ X) : ∀ e ∈ A ++ B, n ≤ e.1 ∨ e.1 ∈ X := fun e he => by
  rcases List.mem_append.1 he with he | he
  · exact h1 e he
  · exact h2 e he
theorem bvx_cells {α : Type} (l : List α) (st : SnkS) : (bldVx l st).cells.toList = [bldVx l st] := by
  rcases st with _ | ⟨b, c, tl⟩ <;> rfl
theorem bvx_one {α : Type} (l : List α) (st : SnkS) : (bldVx l st).oneCell' = true := by
  rcases st with _ | ⟨b, c, tl⟩ <;> rfl
theorem upon_Q {F : Fence} {n : Nat} {P : Program} {o : Oper} {a : Act} {w : World} {K : Act → World → Prop} {Q Q' : Exit → Act → World → Prop} (hP : ∀ c a w, Q (.panic c) a w → Q' (.panic c) a w) (hO : LetsOut Q → LetsOut Q')
    (hh : o.wpIn F n P a w K Q) : o.wpIn F n P a w K Q' := by
  unfold Oper.wpIn at *
  refine ⟨hh.1, ?_⟩
  have hh := hh.2
  generalize (o.semAt F.round a.eval).run P w = r at *
  cases r with
  | ok x w' =>
    cases x <;> simp only [Oper.uponIn] at hh ⊢ <;>
      first
        | exact hh
        | exact ⟨hh.1, CallsIn.mono hh.2 (fun e w'' he => by cases e <;> first | exact he | exact hP _ _ _ he | exact hO he)⟩
        | exact ⟨hh.1, RowsIn.mono hh.2 (fun _ _ he => he)⟩
        | exact ⟨hh.1, RoundIn.mono hh.2 (fun e w'' he => by cases e <;> first | exact he | exact hP _ _ _ he | exact hO he)⟩
  | halt x w' => cases x <;> simp only [Oper.uponIn] at hh ⊢ <;> first | exact hh | exact hP _ _ _ hh | exact hO hh
theorem wpOpIn_Q {F : Fence} {n i : Nat} {P : Program} {ops : Array Oper} {a : Act} {w : World} {K : Act → World → Prop} {Q Q' : Exit → Act → World → Prop} (hP : ∀ c a w, Q (.panic c) a w → Q' (.panic c) a w) (hO : LetsOut Q → LetsOut Q')
    (hh : wpOpIn F n P ops Q i K a w) : wpOpIn F n P ops Q' i K a w := by
  unfold wpOpIn at *
  split
  · rename_i ho; simpa only [ho] using hh
  · rename_i o ho
    simp only [ho] at hh
    split
    · rename_i hw; simp only [hw, if_true] at hh; exact upon_Q hP hO hh
    · rename_i hw; simp only [hw] at hh; exact hh
theorem TT_monoN {P : Program} {rd : Option Nat} {ops : Array Oper} {p : Pst} {n' : Act → World → Prop} {Lp : World → Prop} {loud : Nat → Bool} (hn : ∀ a w, n' a w → p.n a w) :
    ∀ (t : Tr) (a : Act) (w : World), TT P rd ops ({ p with n := n' } : Pst).Q Lp loud t a w → TT P rd ops p.Q Lp loud t a w
  | .nil, a, w, h => hn a w h
  | .fork s t, a, w, h => ⟨TT_monoN hn s a w h.1, TT_monoN hn t a w h.2⟩
  | .op i t, a, w, h => by
    rw [TT_op] at h ⊢
    unfold TS at h ⊢
    split
    · rename_i hi; rw [hi] at h; exact h
    · rename_i o hi
      rw [hi] at h
      dsimp only at h ⊢
      split
      · rename_i hl
        rw [if_pos hl] at h
        refine wpOpIn_Q (Q := ({ p with n := n' } : Pst).Q) (fun c a w hx => hx) (fun ⟨a, w, hx⟩ => ⟨a, w, hx⟩) ?_
        exact wpOpIn_mono (fun a w hk => ⟨hk.1, TT_monoN hn t a w hk.2⟩) h
      · rename_i hl
        rw [if_neg hl] at h
        obtain ⟨v, hv, ht⟩ := h
        exact ⟨v, hv, TT_monoN hn t _ w ht⟩
section te2
variable {P : Program} {rd : Option Nat} {ops : Array Oper} {p : Pst} {q : List Nat} {C : Ctx} {L M : Mem} {k : Nat} {tr : Tr} {E : Env}
variable {ty : TypeId} {ps : String} {af : Array Edge} {op : Op}
theorem TE_join {σ : Type} (EE : σ → Env) (HH : σ → Mem) (I : σ → Prop) (h1 : TE P rd ops { p with n := fun a w => ∃ s, I s ∧ Rep C.N C.ds (EE s) a ∧ St C.w0 C.X (HH s) w } q C L tr E M) (h2 : ∀ s, I s → PN C p.n (EE s) (HH s)) : TE P rd ops p q C L tr E M :=
  fun a w hr hs => TT_monoN (fun a w ⟨s, hI, hr, hs⟩ => h2 s hI a w hr hs) tr a w (h1 a w hr hs)
/-- copy out of what can be read, all of it, into a block. -/
theorem TE_copyR {α : Type} {enc : α → List Value} {x y : Operand} {dT sT el : TypeId} {by' : Nat} {z xv : Value} {b o dLen dCap : Nat} {t : TypeId} {H0 : Mem} {d : Nat} {g : Option (Nat × Bool)} (i : Nat) (ys : List α) (cur cur' : Array Value) (M' : Mem) (ho : ops[k]? = some ⟨some d, .call ⟨.builtin .copy, #[x, y], #[dT, sT]⟩, ty, ps, af, g⟩) (hl : ld ops q k = true) (hg : GOK ops E g) (hd : Nat.blt d C.N = true)
    (hT : P.underlying dT = some (.slice el)) (hz : ∀ w, (sizeOf el).run P w = .ok 1 w) (hI : ElI P el 1 by' z) (hk : ∀ x, (enc x).length = 1) (h1 : ∀ x, ∀ v ∈ enc x, v.oneCell' = true) (hx : evalE E x = some (.slice (some ⟨b, o, none⟩) dLen dCap)) (hy : evalE E y = some xv)
    (hb : Rdx 1 enc H0 xv ys) (hm : ∀ w, Hp (M ++ L) w → Hp H0 w) (hn : ys.length ≤ dLen) (hi : M[i]? = some (b, .cells cur t (0, 0))) (hfit : o + ys.length ≤ cur.size) (hw : C.w0.heap.size ≤ b ∨ b ∈ C.X)
    (hc : putL cur o (cat enc ys) = cur') (hM : M.set i (b, .cells cur' t (0, 0)) = M') (h : TE P rd ops p q C L tr ((d, .int .i64 ys.length) :: E) M') : TE P rd ops p q C L (.op k tr) E M := by
  subst hc; subst hM
  have hlen : (cat enc ys).length = ys.length := by rw [cat_len hk, Nat.mul_one]
  rcases hb with ⟨rfl, rfl⟩ | ⟨b', off, cap, rfl, hcap, hcell⟩
  · rw [show putL cur o (cat enc ([] : List α)) = cur from rfl, set_same hi] at h
    exact TE_l ho hl hg rfl (RD.copyNil hT hz hx hy) hd h
  · refine TE_copy ho hl hg hd hT hI hx hy (cs := cat enc ys) (by rw [hlen]; exact (Nat.min_eq_left hn).symm) (fun w hw j u hj => ?_) hi (by rw [hlen]; exact hfit) (cat_one h1 ys) hw (by rw [hlen]; exact h)
    obtain ⟨a, ha, hu, _⟩ := cat_out hk (by omega) hj
    rw [Nat.div_one] at ha; rw [Nat.mod_one] at hu
    have := hcell w (hm w hw) j a ha 0 u hu
    rw [add_none]; simpa using this
end te2
end Go.Mv

namespace Go.Mv
open Go Go.Proofs
section call
variable {P : Program} {rd : Option Nat} {ops : Array Oper} {p : Pst} {q : List Nat} {C : Ctx} {L M : Mem} {k : Nat} {tr : Tr} {E : Env}
variable {d : Nat} {ty : TypeId} {ps : String} {af : Array Edge} {g : Option (Nat × Bool)}
/-- At an interface's dynamic type T the method is the function f, its receiver the value itself. -/
def InvOk (P : Program) (T : TypeId) (name : String) (fid : FuncId) : Prop := ∀ v args w, (callMethod (.iface T v) name args).run P w = .ok (.enter fid (#[v] ++ args)) w
theorem invOk_of {T : TypeId} {name : String} {f : FuncId} {i : TypeInfo} {m : Method} {d0 : TypeDesc} (hi : P.info? T = some i) (hm : i.methods.find? (·.name == name) = some m) (hp : m.path.toList = []) (hf : m.func = some (f, false)) (hu : P.underlying T = some d0) (hd : ∀ e, d0 ≠ .pointer e)
    (hen : ∀ args w, (callFunc f args).run P w = .ok (.enter f args) w) : InvOk P T name f := fun v args w => by
  have hti : ∀ w, (typeInfo T).run P w = .ok i w := fun w => by simp [typeInfo, hi]
  unfold callMethod
  obtain ⟨n, hn⟩ : ∃ n, P.types.size + Made.depth = n + 1 := ⟨_, rfl⟩
  simp only [Sem.run_bind, run_program, Result.andThen_ok, hn, method, hti, hm, hp, hf, follow]
  simp only [Sem.run_pure, Result.andThen_ok, Sem.run_bind, receiverAt, run_underlying hu]
  cases d0 with
  | pointer e => exact absurd rfl (hd e)
  | _ => simp [Place.get, hen]
theorem run_invoke_go {r : Operand} {name : String} {xs : Array Operand} {ats : Array TypeId} {fid : FuncId} {T : TypeId} {rv : Value} {vs : List Value} {ρ : Operand → Value} {dst : Option Tmp} (hi : InvOk P T name fid)
    (hρ : ∀ x u, evalE E x = some u → ρ x = u) (hr : evalE E r = some (.iface T rv)) (ha : evalL E xs.toList = some vs) (w : World) :
    (execOp ρ ⟨dst, .call ⟨.invoke r name, xs, ats⟩, ty, ps, af, g⟩).run P w = .ok (.enter fid ((rv :: vs).toArray)) w := by
  have e : xs.map ρ = vs.toArray := by
    apply Array.toList_inj.1
    simpa using evalL_map hρ xs.toList vs ha
  have e2 : (#[Value.iface T rv] ++ vs.toArray).extract 1 (#[Value.iface T rv] ++ vs.toArray).size = vs.toArray := by
    apply Array.toList_inj.1
    simp
  simp only [execOp, resolve, e, hρ _ _ hr, Sem.run_bind, Sem.run_pure, Result.andThen, invoke]
  have e3 : (#[Value.iface T rv] ++ vs.toArray)[0]? = some (Value.iface T rv) := by simp
  rw [e3]
  simp only [e2]
  rw [hi rv vs.toArray w]
  congr 2
  apply Array.toList_inj.1
  simp
theorem TE_invM {r : Operand} {name : String} {xs : Array Operand} {ats : Array TypeId} {fid : FuncId} {T : TypeId} {rv : Value} {vs : List Value} (post : Value → Mem → Prop) (R A H0 : Mem) (hi : InvOk P T name fid) (ho : ops[k]? = some ⟨some d, .call ⟨.invoke r name, xs, ats⟩, ty, ps, af, g⟩) (hl : ld ops q k = true) (hg : GOK ops E g)
    (hr' : evalE E r = some (.iface T rv)) (ha : evalL E xs.toList = some vs) (hd : Nat.blt d C.N = true) (hX : ∀ e ∈ R, C.w0.heap.size ≤ e.1 ∨ e.1 ∈ C.X) (hM : ∀ a, cnt a (A ++ R) ≤ cnt a M)
    (hc : ∀ w, Hp H0 w → Calls P fid (rv :: vs).toArray w (Ret w (keys R) post)) (hs : ∀ a, cnt a H0 ≤ cnt a (A ++ R ++ L))
    (h : ∀ v H1, post v H1 → (∀ e ∈ H1, C.w0.heap.size ≤ e.1 ∨ e.1 ∈ C.X) → TE P rd ops p q C L tr ((d, v) :: E) (A ++ H1)) : TE P rd ops p q C L (.op k tr) E M :=
  TE_sp (A ++ R) (fun a => by rw [cnt_append a (A ++ R), cnt_append a M]; have := hM a; omega) <| TE_loud ho hl hg rfl fun a w hr hs0 => by
    rw [run_invoke_go hi (fun x u hu => hr.eval hu) hr' ha w]
    refine ⟨fun h => by simp [Fw] at h, ?_⟩
    have hcc : CallsIn (Fw rd) 0 P fid (rv :: vs).toArray w (Ret w (keys R) post) := (callsIn_wide (n := 0)).2 (hc w (hs0.hp.sp hs))
    refine CallsIn.mono hcc ?_
    rintro e w' ⟨v, H1, rfl, hp, hfr, hH1, hnew⟩
    have hs' : St C.w0 C.X (A ++ L ++ R) w := hs0.perm (perm_mid A R L)
    obtain ⟨h1, h2⟩ := hs'.after hX hfr hH1 hnew
    have h1' : St C.w0 C.X (A ++ H1 ++ L) w' := h1.perm (perm_mid A L H1)
    exact ⟨h1'.hp.right, h v H1 hp h2 _ _ (hr.put (by simpa using hd) v) h1'⟩
end call
section maps
variable {κ β : Type} [DecidableEq κ] {ek : κ → Value} {ev : β → Value}
section rd
variable {P : Program} {ty : TypeId} {E : Env} {L : Mem} {x y : Operand} {T key elem : TypeId}
end rd
section te
variable {P : Program} {rd : Option Nat} {ops : Array Oper} {p : Pst} {q : List Nat} {C : Ctx} {L M : Mem} {k : Nat} {tr : Tr} {E : Env}
variable {d : Nat} {ty : TypeId} {ps : String} {af : Array Edge} {g : Option (Nat × Bool)}
end te
end maps
end Go.Mv

namespace Go.Mv
open Go Go.Proofs
section els
variable {α : Type} {enc : α → List Value} {sz : Nat}
end els
section te
variable {P : Program} {rd : Option Nat} {ops : Array Oper} {p : Pst} {q : List Nat} {C : Ctx} {L M : Mem} {k : Nat} {tr : Tr} {E : Env}
variable {ty : TypeId} {ps : String} {af : Array Edge} {g : Option (Nat × Bool)}
end te
section rd
variable {P : Program} {ty : TypeId} {E : Env} {L : Mem} {v u : Value} {x y z : Operand} {T U : TypeId} {a b : UInt32}
end rd
def slt (a b : ByteArray) : Bool := Op.bytesLess a.toList b.toList
def sle (a b : ByteArray) : Bool := slt a b || decide (a = b)
theorem bytesLess_irr : ∀ l : List UInt8, Op.bytesLess l l = false
  | [] => rfl
  | a :: l => by simp [Op.bytesLess, bytesLess_irr l]
theorem bytesLess_tri : ∀ a b : List UInt8, Op.bytesLess a b = true ∨ a = b ∨ Op.bytesLess b a = true
  | [], [] => .inr (.inl rfl)
  | [], _ :: _ => .inl rfl
  | _ :: _, [] => .inr (.inr rfl)
  | x :: a, y :: b => by
    simp only [Op.bytesLess, Bool.or_eq_true, decide_eq_true_eq, Bool.and_eq_true, beq_iff_eq]
    by_cases h : x = y
    · subst h
      rcases bytesLess_tri a b with h1 | h1 | h1
      · exact .inl (.inr ⟨rfl, h1⟩)
      · exact .inr (.inl (by rw [h1]))
      · exact .inr (.inr (.inr ⟨rfl, h1⟩))
    · by_cases h2 : x < y
      · exact .inl (.inl h2)
      · exact .inr (.inr (.inl (UInt8.lt_of_le_of_ne (UInt8.not_lt.1 h2) (Ne.symm h))))
theorem bytesLess_tr : ∀ {a b c : List UInt8}, Op.bytesLess a b = true → Op.bytesLess b c = true → Op.bytesLess a c = true
  | _, [], _, h, _ => by simp [Op.bytesLess] at h
  | _, _ :: _, [], _, h => by simp [Op.bytesLess] at h
  | [], _ :: _, _ :: _, _, _ => rfl
  | x :: a, y :: b, z :: c, h1, h2 => by
    simp only [Op.bytesLess, Bool.or_eq_true, decide_eq_true_eq, Bool.and_eq_true, beq_iff_eq] at *
    rcases h1 with h1 | ⟨rfl, h1⟩ <;> rcases h2 with h2 | ⟨rfl, h2⟩
    · exact .inl (UInt8.lt_trans h1 h2)
    · exact .inl h1
    · exact .inl h2
    · exact .inr ⟨rfl, bytesLess_tr h1 h2⟩
theorem toList_inj {a b : ByteArray} (h : a.toList = b.toList) : a = b := by
  have := string_beq a b
  rw [h] at this
  simp at this; exact this
theorem slt_irr (a : ByteArray) : slt a a = false := bytesLess_irr _
theorem slt_tr {a b c : ByteArray} (h1 : slt a b = true) (h2 : slt b c = true) : slt a c = true := bytesLess_tr h1 h2
theorem slt_tri (a b : ByteArray) : slt a b = true ∨ a = b ∨ slt b a = true := by
  rcases bytesLess_tri a.toList b.toList with h | h | h
  · exact .inl h
  · exact .inr (.inl (toList_inj h))
  · exact .inr (.inr h)
theorem slt_asym {a b : ByteArray} (h : slt a b = true) : slt b a = false := by
  cases h2 : slt b a with
  | false => rfl
  | true => have := slt_tr h h2; rw [slt_irr] at this; cases this
theorem sle_not (a b : ByteArray) : sle a b = !slt b a := by
  unfold sle
  rcases slt_tri a b with h | h | h
  · rw [h, slt_asym h]; rfl
  · subst h; rw [slt_irr]; simp
  · rw [h, slt_asym h]
    have : a ≠ b := fun e => by subst e; rw [slt_irr] at h; cases h
    simp [this]
section rd
variable {P : Program} {ty : TypeId} {E : Env} {L : Mem} {x y : Operand} {T U : TypeId} {a b : ByteArray}
theorem RD.leq_string (hx : evalE E x = some (.string a)) (hy : evalE E y = some (.string b)) : RD P (.binOp .leq T x y U) ty E L (.bool (sle a b)) :=
  RD.bin .leq (fun w => by simp [eqGuard, binOp, Op.stringOp, sle, slt, string_beq]) hx hy
end rd
end Go.Mv

namespace Go.Mv
open Go
def byteC (c : UInt8) : List Value := [bcell c]
theorem byteC_len (c : UInt8) : (byteC c).length = 1 := rfl
theorem byteC_one (c : UInt8) : ∀ v ∈ byteC c, v.oneCell' = true := by
  intro v hv
  simp only [byteC, List.mem_cons, List.not_mem_nil, or_false] at hv
  subst hv; rfl
theorem cat_byteC : ∀ l : List UInt8, cat byteC l = bcells l
  | [] => rfl
  | c :: r => by
    have := cat_byteC r
    simp only [cat, bcells, List.flatMap_cons, List.map_cons] at this ⊢
    rw [this]; rfl
theorem Rdb.of_x {H : Mem} {v : Value} {ys : List UInt8} (h : Rdx 1 byteC H v ys) : Rdb H v ys := by
  rcases h with h | ⟨b, off, cap, h1, h2, h3⟩
  · exact .inl h
  · refine .inr ⟨b, off, cap, h1, h2, fun w hw j u hu => ?_⟩
    obtain ⟨x, hx, rfl⟩ : ∃ x, ys[j]? = some x ∧ bcell x = u := by simpa [bcells] using hu
    have := h3 w hw j x hx 0 (bcell x) rfl
    rwa [Nat.mul_one, Nat.add_zero] at this
theorem bldMx_b {u : TypeId} {l : List UInt8} {st : SnkS} : bldMx u byteC l st = bldM u l st := by
  rcases st with _ | ⟨b, cap, tl⟩
  · rfl
  · simp only [bldMx, bldM, cat_byteC]
theorem bldVx_b {l : List UInt8} {st : SnkS} : bldVx l st = bldV l st := by
  rcases st with _ | ⟨b, cap, tl⟩ <;> rfl
theorem BldOk.of_snk {l : List UInt8} {st : SnkS} (h : SnkOk l st) : BldOk 1 byteC l st := by
  rcases st with _ | ⟨b, cap, tl⟩
  · exact h
  · exact ⟨h.1, h.2.1, by rw [cat_byteC]; exact h.2.2⟩
theorem SnkOk.of_bld {l : List UInt8} {st : SnkS} (h : BldOk 1 byteC l st) : SnkOk l st := by
  rcases st with _ | ⟨b, cap, tl⟩
  · exact h
  · exact ⟨h.1, h.2.1, by rw [← cat_byteC]; exact h.2.2⟩
def toB (z : Int) : UInt8 := UInt8.ofNat z.toNat
theorem bcell_toB {z : Int} (h0 : 0 ≤ z) (h1 : z < 256) : Value.int .u8 z = bcell (toB z) := bcell_of (by omega) (by omega)
theorem u8_rng (z : Int) : 0 ≤ IntKind.u8.wrap z ∧ IntKind.u8.wrap z < 256 := by
  have h1 := Int.emod_nonneg z (show (256 : Int) ≠ 0 by decide)
  have h2 := Int.emod_lt_of_pos z (show (0 : Int) < 256 by decide)
  have h : IntKind.u8.wrap z = z % 256 := by simp [IntKind.wrap, IntKind.signed, IntKind.bits]
  rw [h]; exact ⟨h1, h2⟩
section rd
variable {P : Program} {ty : TypeId} {E : Env} {L : Mem} {x : Operand} {v : Value} {T : TypeId}
theorem RD.mkIface {d0 : TypeDesc} (hu : P.underlying T = some d0) (hd : ∀ m, d0 ≠ .interface m) (hx : evalE E x = some v) : RD P (.makeInterface T x) ty E L (.iface T v) := fun ρ w _ _ _ _ hρ _ => by
  simp only [execOp, hρ _ _ hx, Instr.makeInterface, Sem.run_bind, run_underlying hu, Result.andThen_ok]
  cases d0 with
  | interface m => exact absurd rfl (hd m)
  | _ => rfl
theorem RD.str_of_rune {U : TypeId} {k : IntKind} {n : Int} {dS : TypeDesc} (hS : ∀ w, (underlying T).run P w = .ok dS w) (hU : ∀ w, (underlying U).run P w = .ok .string w) (hx : evalE E x = some (.int k n)) :
    RD P (.convert T U x) ty E L (.string (Utf8.encode n)) := fun ρ w _ _ _ _ hρ _ => by
  simp [execOp, hρ _ _ hx, convert, hS, hU, Conv.intToString]
end rd
theorem lt_data {s : ByteArray} {i : Nat} (h : i < s.size) : i < s.data.toList.length := by simpa using h
theorem get!_data {s : ByteArray} {i : Nat} (h : i < s.size) : s.get! i = gt s.data.toList i := by
  have h' : i < s.data.toList.length := lt_data h
  have e1 : s.get! i = s.data[i]! := rfl
  have h2 : i < s.data.size := h
  rw [e1, getElem!_pos s.data i h2]
  have := gt_some h'
  rw [List.getElem?_eq_getElem h'] at this
  simpa using (Option.some.inj this)
def sepB (c : UInt8) : Bool := c == 47 || c == 0
def hasSep (s : ByteArray) : Bool := s.data.toList.any sepB
theorem decode_step {s : ByteArray} {pos : Nat} (h : pos < s.size) : 1 ≤ (Utf8.decode s pos).2 ∧ pos + (Utf8.decode s pos).2 ≤ s.size := by
  simp only [Utf8.decode]
  repeat' split
  all_goals first | (simp_all; omega) | (simp only [Bool.and_eq_true, decide_eq_true_eq] at *; omega)
theorem decode_span {s : ByteArray} {pos : Nat} (h : pos < s.size) (ha : ¬ (s.get! pos).toNat < 128) : 128 ≤ (Utf8.decode s pos).1 ∧ ∀ j, pos ≤ j → j < pos + (Utf8.decode s pos).2 → 128 ≤ (s.get! j).toNat := by
  have e0 : s.get! (pos + 0) = s.get! pos := rfl
  simp only [Utf8.decode, e0, ha, if_false]
  have one : ∀ j, pos ≤ j → j < pos + 1 → 128 ≤ (s.get! j).toNat := fun j h1 h2 => by
    obtain rfl : j = pos := by omega
    omega
  have co : ∀ k, ((s.get! (pos + k)).toNat / 64 == 2) = true → 128 ≤ (s.get! (pos + k)).toNat := fun k hk => by
    have := eq_of_beq hk; omega
  split
  · rename_i h1
    simp only [Bool.and_eq_true] at h1
    have c1 := co 1 h1.2.2
    split
    · exact ⟨by assumption, fun j h2 h3 => by
        have : j = pos ∨ j = pos + 1 := by simp only at h3; omega
        rcases this with rfl | rfl
        · omega
        · exact c1⟩
    · exact ⟨by decide, one⟩
  · split
    · rename_i h1
      simp only [Bool.and_eq_true] at h1
      have c1 := co 1 h1.1.2.2
      have c2 := co 2 h1.2.2
      split
      · rename_i h4
        simp only [Bool.and_eq_true, decide_eq_true_eq, ge_iff_le] at h4
        exact ⟨by simp only; omega, fun j h2 h3 => by
          have : j = pos ∨ j = pos + 1 ∨ j = pos + 2 := by simp only at h3; omega
          rcases this with rfl | rfl | rfl
          · omega
          · exact c1
          · exact c2⟩
      · exact ⟨by decide, one⟩
    · split
      · rename_i h1
        simp only [Bool.and_eq_true] at h1
        have c1 := co 1 h1.1.1.2.2
        have c2 := co 2 h1.1.2.2
        have c3 := co 3 h1.2.2
        split
        · rename_i h4
          simp only [Bool.and_eq_true, decide_eq_true_eq, ge_iff_le] at h4
          exact ⟨by simp only; omega, fun j h2 h3 => by
            have : j = pos ∨ j = pos + 1 ∨ j = pos + 2 ∨ j = pos + 3 := by simp only at h3; omega
            rcases this with rfl | rfl | rfl | rfl
            · omega
            · exact c1
            · exact c2
            · exact c3⟩
        · exact ⟨by decide, one⟩
      · exact ⟨by decide, one⟩
theorem sepB_big {c : UInt8} (h : 128 ≤ c.toNat) : sepB c = false := by
  have h1 : c ≠ 47 := fun e => by subst e; revert h; decide
  have h2 : c ≠ 0 := fun e => by subst e; revert h; decide
  simp [sepB, h1, h2]
theorem sepB_iff {c : UInt8} : sepB c = true ↔ (c.toNat : Int) = 47 ∨ (c.toNat : Int) = 0 := by
  have h1 : (c = 47) ↔ (c.toNat : Int) = 47 := by rw [UInt8.toNat_inj.symm]; show c.toNat = 47 ↔ _; omega
  have h2 : (c = 0) ↔ (c.toNat : Int) = 0 := by rw [UInt8.toNat_inj.symm]; show c.toNat = 0 ↔ _; omega
  rw [← h1, ← h2]
  simp [sepB]
theorem sepB_nat {c : UInt8} : sepB c = decide ((c.toNat : Int) = 47 ∨ (c.toNat : Int) = 0) := by
  rw [Bool.eq_iff_iff, sepB_iff]; simp
/-- No separator among the first. -/
def NoSep (s : ByteArray) (pos : Nat) : Prop := ∀ j, j < pos → sepB (s.get! j) = false
theorem NoSep.step {s : ByteArray} {pos : Nat} {z : Int} (h : NoSep s pos) (hp : pos < s.size) (hz : decide (0 ≤ z) = decide (((Utf8.decode s pos).1 : Int) = 47 ∨ ((Utf8.decode s pos).1 : Int) = 0)) (hn : ¬ 0 ≤ z) : NoSep s (pos + (Utf8.decode s pos).2) := fun j hj => by
  rcases Nat.lt_or_ge j pos with h1 | h1
  · exact h j h1
  by_cases ha : (s.get! pos).toNat < 128
  · have hd : Utf8.decode s pos = ((s.get! pos).toNat, 1) := by
      have e0 : s.get! (pos + 0) = s.get! pos := rfl
      simp only [Utf8.decode, e0, ha, if_true]
    rw [hd] at hj hz
    simp only at hj
    obtain rfl : j = pos := by omega
    rw [sepB_nat, ← hz]
    simpa using hn
  · exact sepB_big ((decode_span hp ha).2 j h1 hj)
theorem NoSep.none {s : ByteArray} {pos : Nat} (h : NoSep s pos) (hp : s.size ≤ pos) : hasSep s = false := by
  unfold hasSep
  refine List.any_eq_false.2 fun c hc => ?_
  obtain ⟨i, hi, rfl⟩ := List.getElem_of_mem hc
  have hi' : i < s.size := by simpa using hi
  have := h i (by omega)
  rw [get!_data hi'] at this
  have e := gt_some (l := s.data.toList) hi
  rw [List.getElem?_eq_getElem hi] at e
  rw [Option.some.inj e, this]; simp
theorem NoSep.hit {s : ByteArray} {pos : Nat} {z : Int} (hp : pos < s.size) (hz : decide (0 ≤ z) = decide (((Utf8.decode s pos).1 : Int) = 47 ∨ ((Utf8.decode s pos).1 : Int) = 0)) (hn : 0 ≤ z) : hasSep s = true := by
  have hr := of_decide_eq_true (hz.symm.trans (decide_eq_true hn))
  by_cases ha : (s.get! pos).toNat < 128
  · have hd : Utf8.decode s pos = ((s.get! pos).toNat, 1) := by
      have e0 : s.get! (pos + 0) = s.get! pos := rfl
      simp only [Utf8.decode, e0, ha, if_true]
    rw [hd] at hr
    have hs : sepB (s.get! pos) = true := by rw [sepB_nat]; exact decide_eq_true hr
    unfold hasSep
    rw [get!_data hp] at hs
    exact List.any_eq_true.2 ⟨_, gt_mem (lt_data hp), hs⟩
  · have := (decode_span hp ha).1
    omega
theorem enc_big {r : Int} (h : 128 ≤ r) : 2 ≤ (Utf8.encode r).size ∧ (Utf8.encode r).size ≤ 4 ∧ ((Utf8.encode r).size = 2 → 128 ≤ (gt (Utf8.encode r).data.toList 1).toNat) := by
  have hc : 128 ≤ (if Utf8.valid r then r.toNat else Utf8.runeError) := by
    split
    · omega
    · decide
  simp only [Utf8.encode]
  generalize (if Utf8.valid r then r.toNat else Utf8.runeError) = c at hc
  rw [if_neg (by omega)]
  split
  · refine ⟨Nat.le_refl _, Nat.le_of_ble_eq_true rfl, fun _ => ?_⟩
    show 128 ≤ (UInt8.ofNat (128 + c % 64)).toNat
    rw [UInt8.toNat_ofNat_of_lt' (by show 128 + c % 64 < 256; omega)]
    omega
  · split
    · exact ⟨Nat.le_of_ble_eq_true rfl, Nat.le_of_ble_eq_true rfl, fun h => absurd (show (3 : Nat) = 2 from h) (by decide)⟩
    · exact ⟨Nat.le_of_ble_eq_true rfl, Nat.le_of_ble_eq_true rfl, fun h => absurd (show (4 : Nat) = 2 from h) (by decide)⟩
theorem indexAny_sep (s : ByteArray) : decide (0 ≤ Lib.indexAny s.data.toList [47, 0]) = hasSep s := by
  unfold hasSep
  induction s.data.toList with
  | nil => rfl
  | cons b l ih =>
    have hge := Lib.indexAny_ge [47, 0] l
    have e : ([47, 0] : List UInt8).contains b = sepB b := by rw [Bool.eq_iff_iff]; simp [sepB]
    rw [Lib.indexAny, e, List.any_cons]
    cases sepB b with
    | true => rfl
    | false =>
      rw [Bool.false_or, ← ih]
      simp only [Bool.false_eq_true, if_false]
      split
      · rename_i h; rw [eq_of_beq h]
      · rename_i h
        have h' : Lib.indexAny l [47, 0] ≠ -1 := by simpa using h
        exact decide_eq_decide.2 (by omega)
theorem Ret.new2 {P : Program} {f : FuncId} {args : Array Value} {w : World} {v : Value} {o1 o2 : Obj} (h : Calls P f args w fun e w' => e = .returned v ∧ w' = (w.alloc o1).alloc o2) : Calls P f args w (Ret w [] fun x H1 => x = v ∧ H1 = []) :=
  h.mono (by rintro e w' ⟨rfl, rfl⟩; exact ⟨v, [], rfl, ⟨rfl, rfl⟩, ((Fr.refl w []).alloc o1).alloc o2, Hp.nil _, by simp⟩)
end Go.Mv

namespace Go.Mv
open Go Go.Proofs
/-- Eight words. -/
structure S8 where
  a : UInt32
  b : UInt32
  c : UInt32
  d : UInt32
  e : UInt32
  f : UInt32
  g : UInt32
  h : UInt32
instance : Inhabited S8 := ⟨⟨0, 0, 0, 0, 0, 0, 0, 0⟩⟩
def S8.l (s : S8) : List UInt32 := [s.a, s.b, s.c, s.d, s.e, s.f, s.g, s.h]
end Go.Mv

namespace Go.Mv
open Go Go.Proofs
def upd {α : Type} (f : Nat → α) (k : Nat) (y : α) : Nat → α := fun i => if i = k then y else f i
section rd
variable {P : Program} {ty : TypeId} {E : Env} {L : Mem} {v u : Value} {x y z : Operand} {T U : TypeId} {a b : UInt32}
end rd
section te
variable {P : Program} {rd : Option Nat} {ops : Array Oper} {p : Pst} {q : List Nat} {C : Ctx} {E : Env} {M L : Mem} {k : Nat} {tr : Tr} {ty : TypeId} {ps : String} {af : Array Edge} {g : Option (Nat × Bool)} {d : Nat}
/-- Bytes that are turned into bytes: the same, marked. -/
theorem TE_convSl {src dst' e1 el : TypeId} {x : Operand} {b len cap : Nat} {cs : Array Value} {t : TypeId} (i : Nat) (M' : Mem) (ho : ops[k]? = some ⟨some d, .convert src dst' x, ty, ps, af, g⟩) (hl : ld ops q k = true) (hg : GOK ops E g) (hd : Nat.blt d C.N = true)
    (hS : P.underlying src = some (.slice e1)) (hD : P.underlying dst' = some (.slice el)) (hsd : (src == dst') = true) (he : P.underlying el = some (.int .u8)) (hx : evalE E x = some (.slice (some ⟨b, 0, none⟩) len cap)) (hi : M[i]? = some (b, .cells cs t (0, 0))) (hw : C.w0.heap.size ≤ b ∨ b ∈ C.X)
    (hM : M.set i (b, .cells cs t (cs.size, cs.size + 1)) = M') (h : TE P rd ops p q C L tr ((d, .slice (some ⟨b, 0, none⟩) len cap) :: E) M') : TE P rd ops p q C L (.op k tr) E M := by
  subst hM
  refine TE_loud ho hl hg rfl fun a w hr hs => ?_
  have hb := hs.hp.get (i := i) (b := b) (o := .cells cs t (0, 0)) (by
    obtain ⟨hlt, _⟩ := List.getElem?_eq_some_iff.1 hi
    rw [List.getElem?_append_left hlt]; exact hi)
  have hlt : b < w.heap.size := (Array.getElem?_eq_some_iff.1 hb).1
  have hsame : (w.freeze ⟨b, cs.size, none⟩ 1).heap[b]? = some (.cells cs t (cs.size, cs.size + 1)) := by
    simp [World.freeze, Array.getElem?_modify, hb]
  have hoth : ∀ k, k ≠ b → (w.freeze ⟨b, cs.size, none⟩ 1).heap[k]? = w.heap[k]? := fun k hk => by
    simp [World.freeze, Array.getElem?_modify, Ne.symm hk]
  have hst := hs.upd hi (w' := w.freeze ⟨b, cs.size, none⟩ 1) (o' := .cells cs t (cs.size, cs.size + 1)) hsame hoth rfl rfl rfl (by simp [World.freeze]) rfl hw
  have hrun : (execOp a.eval ⟨some d, .convert src dst' x, ty, ps, af, g⟩).run P w = .ok (.value (.slice (some ⟨b, 0, none⟩) len cap)) (w.freeze ⟨b, cs.size, none⟩ 1) := by
    simp [execOp, hr.eval hx, convert, run_underlying hS, run_underlying hD, run_underlying he, hsd, markStringish, World.shape?, hb]
  rw [hrun]
  exact ⟨hst.hp.right, h _ _ (hr.put (by simpa using hd) _) hst⟩
end te
section done
variable {P : Program} {fn : Func} {E : Env} {H : Mem} {post : Value → Mem → Prop} {X : List Nat}
end done
end Go.Mv

namespace Go.Proofs.Ytloljpefdecmhaa
open Go Go.Mv
def dotOk (s c : Int) : Bool := decide (0 ≤ s ∧ s < 16 ∧ 1 ≤ c ∧ c ≤ 4294967295)
theorem dotOk_iff {s c : Int} : dotOk s c = true ↔ 0 ≤ s ∧ s < 16 ∧ 1 ≤ c ∧ c ≤ 4294967295 := by simp [dotOk]
end Go.Proofs.Ytloljpefdecmhaa

namespace Go.Proofs.Ytloljpefdecmhaa
open Go Go.Mv
theorem c_lebParts (n : Int) (w : World) : Calls Try.prog 72 #[.int .u64 n] w (Ret w [] fun v H1 => ∃ b, v = .func (.func 73) #[] #[.pointer (some ⟨b, 0, none⟩)] ∧ H1 = [(b, .cells #[.int .u64 n] 83 (0, 0))]) := by
  refine fn_enter (args := [_]) Try.func72 rfl Try.ntmps72 rfl (Hp.nil w) ?_
  refine pn_seq ?_
  refine pn_plain [] rfl ?_
  refine TE_box rfl rfl trivial rfl fun b1 hb1 => ?_
  refine TE_q rfl rfl (RD.assign rfl) rfl ?_
  refine TE_nil0 ?_
  refine pn_seq ?_
  refine pn_plain [] rfl ?_
  refine TE_q rfl rfl (RD.makeFunc rfl rfl) rfl ?_
  refine TE_q rfl rfl (RD.assign rfl) rfl ?_
  refine TE_nil0 ?_
  refine pn_ret ?_
  exact pn_done rfl rfl ⟨b1, rfl, rfl⟩ (List.Sublist.refl _) (by simp; exact hb1)

theorem it_lebParts (n b : Nat) (hn : n < 18446744073709551616) : Iter Try.prog 73 [.pointer (some ⟨b, 0, none⟩)] (fun x => [bcell x]) [(b, .cells #[.int .u64 (n : Int)] 83 (0, 0))] (lebL n) (fun _ HI' => HI' = []) := by
  intro σ l HJ G S w s0 h0 hHp hy
  refine fn_enter (args := [_, _]) Try.func73 rfl Try.ntmps73 rfl hHp ?_
  refine pn_seq ?_
  refine pn_block ?_
  refine pn_loop (σ := List UInt8 × Nat × σ) (fun _ => [(0, .func (.yield l) #[] #[]), (1, .pointer (some ⟨b, 0, none⟩))]) (fun st => (b, .cells #[.int .u64 (st.2.1 : Int)] 83 (0, 0)) :: HJ st.2.2) (fun st => lebL n = st.1 ++ lebL st.2.1 ∧ G st.1 st.2.2 ∧ (∀ e ∈ HJ st.2.2, w.heap.size ≤ e.1 ∨ e.1 ∈ keys ([(b, .cells #[.int .u64 (n : Int)] 83 (0, 0))] ++ HJ s0)) ∧ st.2.1 < 18446744073709551616) (fun st => st.2.1) ([], n, s0) ⟨rfl, h0, fun e he => .inr (mem_keys.2 ⟨e, by simp [he], rfl⟩), hn⟩ ⟨rfl, rfl, trivial⟩ (List.Sublist.refl _) ?_
  rintro ⟨pre, m, s⟩ ⟨hpre, hG, hX, hm⟩; dsimp only at hpre hG hX hm ⊢
  refine pn_seq ?_
  refine pn_seq ?_
  refine pn_plain [] rfl ?_
  refine TE_l rfl rfl trivial rfl (RD.load (i := 0) Try.isAgg83 rfl rfl rfl) rfl ?_
  refine TE_q rfl rfl (RD.geq rfl rfl) rfl ?_
  refine TE_nil0 ?_
  first | refine pn_condD rfl (fun hc0 => ?_) (fun hc0 => ?_) | refine pn_condN rfl (fun hc0 => ?_) (fun hc0 => ?_) | refine pn_cond rfl (fun hc0 => ?_) (fun hc0 => ?_)
  · refine pn_skip ?_
    refine pn_block ?_
    refine pn_seq ?_
    refine pn_seq ?_
    refine pn_plain [3] rfl ?_
    refine TE_q rfl rfl (RD.move rfl) rfl ?_
    refine TE_l rfl rfl trivial rfl (RD.load (i := 0) Try.isAgg83 rfl rfl rfl) rfl ?_
    refine TE_q rfl rfl (RD.rem rfl rfl (by decide)) rfl ?_
    refine TE_q rfl rfl (RD.conv Try.runUnderlying83 Try.runUnderlying5 rfl) rfl ?_
    refine TE_q rfl rfl (RD.as (RD.add rfl rfl) (leb_more m)) rfl ?_
    refine TE_yield 1 rfl rfl trivial rfl rfl rfl rfl rfl hX (fun W hW => hy pre (UInt8.ofNat (m % 128 + 128)) s W hG ⟨lebL (m / 128), by rw [hpre, lebL_big (n := m) (by omega), List.append_assoc]; rfl⟩ hW.fr (hW.hp.sub (by simp))) ?_
    rintro v10 H5 ⟨s', rfl, ⟨rfl, hG'⟩ | ⟨rfl, hS'⟩⟩ hX'
    all_goals refine TE_q rfl rfl (RD.not rfl) rfl ?_
    all_goals refine TE_nil0 ?_
    all_goals first
      | (
          refine pn_condT rfl ?_
          refine pn_ret ?_
          exact pn_done rfl rfl ⟨s', [], rfl, .inr ⟨pre ++ [UInt8.ofNat (m % 128 + 128)], ⟨lebL (m / 128), by rw [hpre, lebL_big (n := m) (by omega), List.append_assoc]; rfl⟩, hS', rfl⟩⟩ (List.sublist_cons_self _ _) (fun e he => (hX' e he).symm))
      | (
          refine pn_condF rfl ?_
          refine pn_skip ?_
          refine pn_plain [] rfl ?_
          refine TE_l rfl rfl trivial rfl (RD.load (i := 0) Try.isAgg83 rfl rfl rfl) rfl ?_
          refine TE_q rfl rfl (RD.as (RD.shr rfl rfl (by decide)) (leb_shr m)) rfl ?_
          refine TE_store (i := 0) rfl Try.sizeOf83 trivial rfl rfl rfl rfl rfl rfl (.inr (by simp)) ?_
          refine TE_nil0 ?_
          (exact pn_again (pre ++ [UInt8.ofNat (m % 128 + 128)], m / 128, s') ⟨by rw [hpre, lebL_big (n := m) (by omega), List.append_assoc]; rfl, hG', hX', by show m / 128 < 18446744073709551616; omega⟩ (by show m / 128 < m; omega) ⟨rfl, rfl, trivial⟩ (List.Sublist.refl _)))
      | (
          first | refine pn_condD rfl (fun hc1 => ?_) (fun hc1 => ?_) | refine pn_condN rfl (fun hc1 => ?_) (fun hc1 => ?_) | refine pn_cond rfl (fun hc1 => ?_) (fun hc1 => ?_)
          · refine pn_ret ?_
            exact pn_done rfl rfl ⟨s', [], rfl, .inr ⟨pre ++ [UInt8.ofNat (m % 128 + 128)], ⟨lebL (m / 128), by rw [hpre, lebL_big (n := m) (by omega), List.append_assoc]; rfl⟩, hS', rfl⟩⟩ (List.sublist_cons_self _ _) (fun e he => (hX' e he).symm)
          · refine pn_skip ?_
            refine pn_plain [] rfl ?_
            refine TE_l rfl rfl trivial rfl (RD.load (i := 0) Try.isAgg83 rfl rfl rfl) rfl ?_
            refine TE_q rfl rfl (RD.as (RD.shr rfl rfl (by decide)) (leb_shr m)) rfl ?_
            refine TE_store (i := 0) rfl Try.sizeOf83 trivial rfl rfl rfl rfl rfl rfl (.inr (by simp)) ?_
            refine TE_nil0 ?_
            (exact pn_again (pre ++ [UInt8.ofNat (m % 128 + 128)], m / 128, s') ⟨by rw [hpre, lebL_big (n := m) (by omega), List.append_assoc]; rfl, hG', hX', by show m / 128 < 18446744073709551616; omega⟩ (by show m / 128 < m; omega) ⟨rfl, rfl, trivial⟩ (List.Sublist.refl _)))
  · refine pn_exit ?_
    refine pn_plain [2] rfl ?_
    refine TE_q rfl rfl (RD.move rfl) rfl ?_
    refine TE_l rfl rfl trivial rfl (RD.load (i := 0) Try.isAgg83 rfl rfl rfl) rfl ?_
    refine TE_q rfl rfl (RD.as (RD.conv Try.runUnderlying83 Try.runUnderlying5 rfl) (leb_last (by omega))) rfl ?_
    refine TE_yield 1 rfl rfl trivial rfl rfl rfl rfl rfl hX (fun W hW => hy pre (UInt8.ofNat m) s W hG (by rw [hpre, lebL_small (n := m) (by omega)]; exact List.prefix_refl _) hW.fr (hW.hp.sub (by simp))) ?_
    rintro v17 H3 ⟨s', rfl, hcase⟩ hX'
    refine TE_nil0 ?_
    (rw [lebL_small (n := m) (by omega)] at hpre; rcases hcase with ⟨_, hG'⟩ | ⟨_, hS'⟩ <;> first | exact pn_done rfl rfl ⟨s', [], rfl, .inl ⟨hpre ▸ hG', rfl⟩⟩ (List.sublist_cons_self _ _) (fun e he => (hX' e he).symm) | exact pn_done rfl rfl ⟨s', [], rfl, .inr ⟨_, hpre ▸ List.prefix_refl _, hS', rfl⟩⟩ (List.sublist_cons_self _ _) (fun e he => (hX' e he).symm))

end Go.Proofs.Ytloljpefdecmhaa
