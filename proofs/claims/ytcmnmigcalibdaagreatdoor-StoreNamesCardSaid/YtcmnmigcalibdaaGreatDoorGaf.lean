import Derived.Test.YtcmnmigcalibdaaGreatDoorGae
import Derived.Laws.IdiomRangeMap
namespace Go.Mv
open Go Go.Proofs
def gt {α : Type} [Inhabited α] (l : List α) (i : Nat) : α := l.getD i default
section gt
variable {α : Type} [Inhabited α] {l m : List α} {i : Nat}
theorem gt_some (h : i < l.length) : l[i]? = some (gt l i) := by
  unfold gt; rw [List.getD_eq_getElem?_getD, List.getElem?_eq_getElem h]; rfl
theorem gt_mem (h : i < l.length) : gt l i ∈ l := List.mem_of_getElem? (gt_some h)
theorem gt_eq {x : α} (h : l[i]? = some x) : gt l i = x := by
  unfold gt; rw [List.getD_eq_getElem?_getD, h]; rfl
end gt
section code
variable {P : Program} {rd : Option Nat} {p : Pst} {C : Ctx} {E : Env} {H : Mem} {ops : Array Oper} {id : Nat}
theorem pn_plainG (q : List Nat) (M0 : Mem) {n : Nat} (hn : ops.size = n) (hc : ∀ a, cnt a M0 ≤ cnt a H) (h : TE P rd ops p q C [] (line 0 n) E M0) : PN C (WP P rd (.region id ops false) p) E H :=
  pn_sp M0 hc (pn_plain q hn h)
theorem pn_drawG (q : List Nat) (M0 L0 : Mem) {n : Nat} (hn : ops.size = n) (hm : P.follows .mixedOrders = true) (hc : chk ops (ld ops q) (Region.before ops) = true)
    (hs : ∀ a, cnt a (M0 ++ L0) ≤ cnt a H) (h : TE P rd ops p q C L0 (line 0 n) E M0) : PN C (WP P rd (.region id ops true) p) E H :=
  pn_sp (M0 ++ L0) hs fun a w hr hw => by
    refine wp_draw hm hc hw.hp.right.drew ?_
    rw [hn, List.range_eq_range', ← TT_line]
    exact h a w.drew hr ⟨hw.fr.drew, hw.hp.drew⟩
theorem pn_drawLG (q : List Nat) (M0 L0 : Mem) (t : Tr) (hm : P.follows .mixedOrders = true) (hp : plainOps ops = true) (hc : chkL ops (ld ops q) ops.size [(Array.replicate ops.size false, t)] = true)
    (hs : ∀ a, cnt a (M0 ++ L0) ≤ cnt a H) (h : TE P rd ops p q C L0 t E M0) : PN C (WP P rd (.region id ops true) p) E H :=
  pn_sp (M0 ++ L0) hs fun a w hr hw => by
    exact wp_drawT hm hp (chkT_of_L ops (ld ops q) ops.size _ hc (Array.replicate ops.size false, t) List.mem_cons_self) hw.hp.right.drew (h a w.drew hr ⟨hw.fr.drew, hw.hp.drew⟩)
end code
def slp : Value → Nat → Value
  | .slice (some ⟨b, off, _⟩) _ _, o => .pointer (some ⟨b, off + o, none⟩)
  | v, _ => v
section rd
variable {P : Program} {ty : TypeId} {E : Env} {L H : Mem} {v u : Value} {x y z : Operand} {T U : TypeId}
section els
variable {α : Type} {sz : Nat} {enc : α → List Value} {l : List α}
theorem RD.idxR {el : TypeId} {k : IntKind} {i o : Nat} {c : Int} (hT : ∀ w, (underlying T).run P w = .ok (.slice el) w) (hz : ∀ w, (sizeOf el).run P w = .ok sz w) (hx : evalE E x = some v) (hb : Rdx sz enc H v l)
    (hy : evalE E y = some (.int k c)) (hi : c = (i : Int)) (h : i < l.length) (ho : i * sz = o) : RD P (.indexAddr T x y) ty E L (slp v o) := by
  subst ho
  rcases hb with ⟨⟨a0, rfl⟩, rfl⟩ | ⟨b, off, cap, rfl, hcap, hc⟩
  · simp at h
  · exact RD.indexX hT hz hx hy hi h
theorem RD.ldR {i j o : Nat} {a : α} (ha : ∀ w, (isAgg T).run P w = .ok false w) (hx : evalE E x = some (slp v o)) (hb : Rdx sz enc H v l) (hi : l[i]? = some a) (ho : o = i * sz + j) (hu : (enc a)[j]? = some u)
    (hm : ∀ w, Hp L w → Hp H w) : RD P (.load T x) ty E L u := by
  rcases hb with ⟨⟨a0, rfl⟩, rfl⟩ | ⟨b, off, cap, rfl, hcap, hc⟩
  · simp at hi
  · subst ho
    exact RD.loadC ha hx (fun w hw => by rw [← Nat.add_assoc]; exact hc w (hm w hw) i a hi j u hu)
theorem RD.ldRA {i j o n : Nat} {a : α} {vs : List Value} (ha : ∀ w, (isAgg T).run P w = .ok true w) (hs : ∀ w, (sizeOf T).run P w = .ok n w) (hx : evalE E x = some (slp v o)) (hb : Rdx sz enc H v l) (hi : l[i]? = some a)
    (ho : o = i * sz + j) (hn : vs.length = n) (hu : ∀ t w, vs[t]? = some w → (enc a)[j + t]? = some w) (hv : Value.agg vs.toArray = u) (hm : ∀ w, Hp L w → Hp H w) : RD P (.load T x) ty E L u := by
  subst hv
  rcases hb with ⟨⟨a0, rfl⟩, rfl⟩ | ⟨b, off, cap, rfl, hcap, hc⟩
  · simp at hi
  · subst ho
    exact RD.loadX ha hs hx hn (fun w hw t u ht => by rw [← Nat.add_assoc, Nat.add_assoc (off + i * sz)]; exact hc w (hm w hw) i a hi (j + t) u (hu t u ht))
end els
end rd
section te
variable {P : Program} {rd : Option Nat} {ops : Array Oper} {p : Pst} {q : List Nat} {C : Ctx} {L M : Mem} {k : Nat} {tr : Tr} {E : Env}
variable {d : Nat} {ty : TypeId} {ps : String} {af : Array Edge} {g : Option (Nat × Bool)}
theorem TE_allocC {T : TypeId} {z : Value} (cs : Array Value) (ho : ops[k]? = some ⟨some d, .alloc T, ty, ps, af, g⟩) (hz : ∀ w, (zeroValue T).run P w = .ok z w) (hcs : z.cells = cs) (hg : GOK ops E g) (hd : Nat.blt d C.N = true)
    (h : ∀ b, C.w0.heap.size ≤ b → TE P rd ops p q C L tr ((d, .pointer (some ⟨b, 0, none⟩)) :: E) ((b, .cells cs T (0, 0)) :: M)) : TE P rd ops p q C L (.op k tr) E M := by
  subst hcs; exact TE_alloc ho hz hg hd h
theorem TE_boxC {T : TypeId} {x : Operand} {u : Value} (cs : Array Value) (ho : ops[k]? = some ⟨some d, .box T x, ty, ps, af, g⟩) (hx : evalE E x = some u) (hcs : u.cells = cs) (hg : GOK ops E g) (hd : Nat.blt d C.N = true)
    (h : ∀ b, C.w0.heap.size ≤ b → TE P rd ops p q C L tr ((d, .pointer (some ⟨b, 0, none⟩)) :: E) ((b, .cells cs T (0, 0)) :: M)) : TE P rd ops p q C L (.op k tr) E M := by
  subst hcs; exact TE_box ho hx hg hd h
/-- A store of one cell. -/
theorem TE_storeC {T : TypeId} {x y : Operand} {b off : Nat} {t : TypeId} {v : Value} (i : Nat) (cs cs' : Array Value) (M' : Mem) (ho : ops[k]? = some ⟨none, .store T x y, ty, ps, af, g⟩) (hs : ∀ w, (sizeOf T).run P w = .ok 1 w) (hg : GOK ops E g)
    (hx : evalE E x = some (.pointer (some ⟨b, off, none⟩))) (hy : evalE E y = some v) (h1 : v.cells.toList = [v]) (h1' : v.oneCell' = true) (hi : M[i]? = some (b, .cells cs t (0, 0))) (hlen : Nat.blt off cs.size = true)
    (hcs : cs.setIfInBounds off v = cs') (hM : M.set i (b, .cells cs' t (0, 0)) = M') (hw : C.w0.heap.size ≤ b ∨ b ∈ C.X) (h : TE P rd ops p q C L tr E M') : TE P rd ops p q C L (.op k tr) E M := by
  subst hM; subst hcs; exact TE_store ho hs hg hx hy h1 h1' hi hlen hw h
/-- A store of several. -/
theorem TE_putC {T : TypeId} {x y : Operand} {b off n : Nat} {t : TypeId} {v : Value} (i : Nat) (cs cs' : Array Value) (M' : Mem) (ho : ops[k]? = some ⟨none, .store T x y, ty, ps, af, g⟩) (hs : ∀ w, (sizeOf T).run P w = .ok n w) (hg : GOK ops E g)
    (hx : evalE E x = some (.pointer (some ⟨b, off, none⟩))) (hy : evalE E y = some v) (hn : Nat.beq v.cells.size n = true) (h1 : (v.cells.toList.all fun u => u.oneCell') = true) (hi : M[i]? = some (b, .cells cs t (0, 0))) (hlen : Nat.ble (off + n) cs.size = true)
    (hcs : putL cs off v.cells.toList = cs') (hM : M.set i (b, .cells cs' t (0, 0)) = M') (hw : C.w0.heap.size ≤ b ∨ b ∈ C.X) (h : TE P rd ops p q C L tr E M') : TE P rd ops p q C L (.op k tr) E M := by
  subst hM; subst hcs; exact TE_put ho hs hg hx hy hn h1 hi hlen hw h
/-- .. a whole block. -/
theorem TE_putCW {T : TypeId} {x y : Operand} {b n : Nat} {t : TypeId} {v : Value} (i : Nat) (cs cs' : Array Value) (M' : Mem) (ho : ops[k]? = some ⟨none, .store T x y, ty, ps, af, g⟩) (hs : ∀ w, (sizeOf T).run P w = .ok n w) (hg : GOK ops E g)
    (hx : evalE E x = some (.pointer (some ⟨b, 0, none⟩))) (hy : evalE E y = some v) (hn : Nat.beq v.cells.size n = true) (h1 : (v.cells.toList.all fun u => u.oneCell') = true) (hi : M[i]? = some (b, .cells cs t (0, 0))) (hlen : Nat.beq cs.size n = true)
    (hcs : v.cells = cs') (hM : M.set i (b, .cells cs' t (0, 0)) = M') (hw : C.w0.heap.size ≤ b ∨ b ∈ C.X) (h : TE P rd ops p q C L tr E M') : TE P rd ops p q C L (.op k tr) E M := by
  subst hM; subst hcs; exact TE_putW ho hs hg hx hy hn h1 hi hlen hw h
theorem putL_all {cs : Array Value} {vs : List Value} (h : vs.length = cs.size) : putL cs 0 vs = vs.toArray := putL_whole h
/-- A call that reads alone; what it lays comes ahead. -/
theorem TE_callG {f : Operand} {xs : Array Operand} {ats : Array TypeId} {fid : FuncId} {fs cap : Array Value} {vs : List Value} (post : Value → Mem → Prop) (H0 : Mem) (ho : ops[k]? = some ⟨some d, .call ⟨.value f, xs, ats⟩, ty, ps, af, g⟩) (hl : ld ops q k = true) (hg : GOK ops E g)
    (hen : ∀ args w, (callFunc fid args).run P w = .ok (.enter fid args) w) (hf : evalE E f = some (.func (.func fid) fs cap)) (ha : evalL E xs.toList = some vs) (hd : Nat.blt d C.N = true)
    (hc : ∀ w, Hp H0 w → Calls P fid (fs.toList ++ vs ++ cap.toList).toArray w (Ret w [] post)) (hs : ∀ a, cnt a H0 ≤ cnt a (M ++ L))
    (h : ∀ v H1, post v H1 → (∀ e ∈ H1, C.w0.heap.size ≤ e.1) → TE P rd ops p q C L tr ((d, v) :: E) (H1 ++ M)) : TE P rd ops p q C L (.op k tr) E M :=
  TE_call ho hl hg hen hf ha hd (fun w hw => hc w (hw.hp.sp hs)) h
/-- A call that turns the blocks of R. -/
theorem TE_callM {f : Operand} {xs : Array Operand} {ats : Array TypeId} {fid : FuncId} {fs cap : Array Value} {vs : List Value} (post : Value → Mem → Prop) (R A H0 : Mem) (ho : ops[k]? = some ⟨some d, .call ⟨.value f, xs, ats⟩, ty, ps, af, g⟩) (hl : ld ops q k = true) (hg : GOK ops E g)
    (hen : ∀ args w, (callFunc fid args).run P w = .ok (.enter fid args) w) (hf : evalE E f = some (.func (.func fid) fs cap)) (ha : evalL E xs.toList = some vs) (hd : Nat.blt d C.N = true)
    (hX : ∀ e ∈ R, C.w0.heap.size ≤ e.1 ∨ e.1 ∈ C.X) (hM : ∀ a, cnt a (A ++ R) ≤ cnt a M)
    (hc : ∀ w, Hp H0 w → Calls P fid (fs.toList ++ vs ++ cap.toList).toArray w (Ret w (keys R) post)) (hs : ∀ a, cnt a H0 ≤ cnt a (A ++ R ++ L))
    (h : ∀ v H1, post v H1 → (∀ e ∈ H1, C.w0.heap.size ≤ e.1 ∨ e.1 ∈ C.X) → TE P rd ops p q C L tr ((d, v) :: E) (A ++ H1)) : TE P rd ops p q C L (.op k tr) E M :=
  TE_callR A R hM ho hl hg hen hf ha hd hX (fun w hw => hc w (hw.hp.sp hs)) h
end te
theorem ownN {C : Ctx} {H : Mem} (h : ∀ e ∈ H, C.w0.heap.size ≤ e.1) : ∀ e ∈ H, C.w0.heap.size ≤ e.1 ∨ e.1 ∈ C.X := fun e he => .inl (h e he)
@[simp] theorem bldVx_none {α : Type} (l : List α) : bldVx l none = .slice none 0 0 := rfl
theorem own0 {n : Nat} {X : List Nat} : ∀ e ∈ ([] : Mem), n ≤ e.1 ∨ e.1 ∈ X := fun _ he => nomatch he
theorem ownC {n : Nat} {X : List Nat} {b : Nat} {o : Obj} {H : Mem} (h1 : n ≤ b ∨ b ∈ X) (h2 : ∀ e ∈ H, n ≤ e.1 ∨ e.1 ∈ X) : ∀ e ∈ (b, o) :: H, n ≤ e.1 ∨ e.1 ∈ X := fun e he => by
  rcases List.mem_cons.1 he with rfl | he
  · exact h1
  · exact h2 e he
theorem ownA {n : Nat} {X : List Nat} {A B : Mem} (h1 : ∀ e ∈ A, n ≤ e.1 ∨ e.1 ∈ X) (h2 : ∀ e ∈ B, n ≤ e.1 ∨ e.1 ∈ X) : ∀ e ∈ A ++ B, n ≤ e.1 ∨ e.1 ∈ X := fun e he => by
  rcases List.mem_append.1 he with he | he
  · exact h1 e he
  · exact h2 e he
theorem bvx_cells {α : Type} (l : List α) (st : SnkS) : (bldVx l st).cells.toList = [bldVx l st] := by
  rcases st with _ | ⟨b, c, tl⟩ <;> rfl
theorem bvx_one {α : Type} (l : List α) (st : SnkS) : (bldVx l st).oneCell' = true := by
  rcases st with _ | ⟨b, c, tl⟩ <;> rfl
theorem upon_Q {F : Fence} {n : Nat} {P : Program} {o : Oper} {a : Act} {w : World} {K : Act → World → Prop} {Q Q' : Exit → Act → World → Prop} (hP : ∀ c a w, Q (.panic c) a w → Q' (.panic c) a w) (hO : LetsOut Q → LetsOut Q')
    (hh : o.wpIn F n P a w K Q) : o.wpIn F n P a w K Q' := by
  unfold Oper.wpIn at *
  refine ⟨hh.1, ?_⟩
  have hh := hh.2
  generalize (o.semAt F.round a.eval).run P w = r at *
  cases r with
  | ok x w' =>
    cases x <;> simp only [Oper.uponIn] at hh ⊢ <;>
      first
        | exact hh
        | exact ⟨hh.1, CallsIn.mono hh.2 (fun e w'' he => by cases e <;> first | exact he | exact hP _ _ _ he | exact hO he)⟩
        | exact ⟨hh.1, RowsIn.mono hh.2 (fun _ _ he => he)⟩
        | exact ⟨hh.1, RoundIn.mono hh.2 (fun e w'' he => by cases e <;> first | exact he | exact hP _ _ _ he | exact hO he)⟩
  | halt x w' => cases x <;> simp only [Oper.uponIn] at hh ⊢ <;> first | exact hh | exact hP _ _ _ hh | exact hO hh
theorem wpOpIn_Q {F : Fence} {n i : Nat} {P : Program} {ops : Array Oper} {a : Act} {w : World} {K : Act → World → Prop} {Q Q' : Exit → Act → World → Prop} (hP : ∀ c a w, Q (.panic c) a w → Q' (.panic c) a w) (hO : LetsOut Q → LetsOut Q')
    (hh : wpOpIn F n P ops Q i K a w) : wpOpIn F n P ops Q' i K a w := by
  unfold wpOpIn at *
  split
  · rename_i ho; simpa only [ho] using hh
  · rename_i o ho
    simp only [ho] at hh
    split
    · rename_i hw; simp only [hw, if_true] at hh; exact upon_Q hP hO hh
    · rename_i hw; simp only [hw] at hh; exact hh
theorem TT_monoN {P : Program} {rd : Option Nat} {ops : Array Oper} {p : Pst} {n' : Act → World → Prop} {Lp : World → Prop} {loud : Nat → Bool} (hn : ∀ a w, n' a w → p.n a w) :
    ∀ (t : Tr) (a : Act) (w : World), TT P rd ops ({ p with n := n' } : Pst).Q Lp loud t a w → TT P rd ops p.Q Lp loud t a w
  | .nil, a, w, h => hn a w h
  | .fork s t, a, w, h => ⟨TT_monoN hn s a w h.1, TT_monoN hn t a w h.2⟩
  | .op i t, a, w, h => by
    rw [TT_op] at h ⊢
    unfold TS at h ⊢
    split
    · rename_i hi; rw [hi] at h; exact h
    · rename_i o hi
      rw [hi] at h
      dsimp only at h ⊢
      split
      · rename_i hl
        rw [if_pos hl] at h
        refine wpOpIn_Q (Q := ({ p with n := n' } : Pst).Q) (fun c a w hx => hx) (fun ⟨a, w, hx⟩ => ⟨a, w, hx⟩) ?_
        exact wpOpIn_mono (fun a w hk => ⟨hk.1, TT_monoN hn t a w hk.2⟩) h
      · rename_i hl
        rw [if_neg hl] at h
        obtain ⟨v, hv, ht⟩ := h
        exact ⟨v, hv, TT_monoN hn t _ w ht⟩
section te2
variable {P : Program} {rd : Option Nat} {ops : Array Oper} {p : Pst} {q : List Nat} {C : Ctx} {L M : Mem} {k : Nat} {tr : Tr} {E : Env}
variable {ty : TypeId} {ps : String} {af : Array Edge} {op : Op}
theorem TE_join {σ : Type} (EE : σ → Env) (HH : σ → Mem) (I : σ → Prop) (h1 : TE P rd ops { p with n := fun a w => ∃ s, I s ∧ Rep C.N C.ds (EE s) a ∧ St C.w0 C.X (HH s) w } q C L tr E M) (h2 : ∀ s, I s → PN C p.n (EE s) (HH s)) : TE P rd ops p q C L tr E M :=
  fun a w hr hs => TT_monoN (fun a w ⟨s, hI, hr, hs⟩ => h2 s hI a w hr hs) tr a w (h1 a w hr hs)
/-- copy out of what can be read, all of it, into a block. -/
theorem TE_copyR {α : Type} {enc : α → List Value} {x y : Operand} {dT sT el : TypeId} {by' : Nat} {z xv : Value} {b o dLen dCap : Nat} {t : TypeId} {H0 : Mem} {d : Nat} {g : Option (Nat × Bool)} (i : Nat) (ys : List α) (cur cur' : Array Value) (M' : Mem) (ho : ops[k]? = some ⟨some d, .call ⟨.builtin .copy, #[x, y], #[dT, sT]⟩, ty, ps, af, g⟩) (hl : ld ops q k = true) (hg : GOK ops E g) (hd : Nat.blt d C.N = true)
    (hT : P.underlying dT = some (.slice el)) (hz : ∀ w, (sizeOf el).run P w = .ok 1 w) (hI : ElI P el 1 by' z) (hk : ∀ x, (enc x).length = 1) (h1 : ∀ x, ∀ v ∈ enc x, v.oneCell' = true) (hx : evalE E x = some (.slice (some ⟨b, o, none⟩) dLen dCap)) (hy : evalE E y = some xv)
    (hb : Rdx 1 enc H0 xv ys) (hm : ∀ w, Hp (M ++ L) w → Hp H0 w) (hn : ys.length ≤ dLen) (hi : M[i]? = some (b, .cells cur t (0, 0))) (hfit : o + ys.length ≤ cur.size) (hw : C.w0.heap.size ≤ b ∨ b ∈ C.X)
    (hc : putL cur o (cat enc ys) = cur') (hM : M.set i (b, .cells cur' t (0, 0)) = M') (h : TE P rd ops p q C L tr ((d, .int .i64 ys.length) :: E) M') : TE P rd ops p q C L (.op k tr) E M := by
  subst hc; subst hM
  have hlen : (cat enc ys).length = ys.length := by rw [cat_len hk, Nat.mul_one]
  rcases hb with ⟨⟨a0, rfl⟩, rfl⟩ | ⟨b', off, cap, rfl, hcap, hcell⟩
  · rw [show putL cur o (cat enc ([] : List α)) = cur from rfl, set_same hi] at h
    exact TE_l ho hl hg rfl (RD.copyNil hT hz hx hy) hd h
  · refine TE_copy ho hl hg hd hT hI hx hy (cs := cat enc ys) (by rw [hlen]; exact (Nat.min_eq_left hn).symm) (fun w hw j u hj => ?_) hi (by rw [hlen]; exact hfit) (cat_one h1 ys) hw (by rw [hlen]; exact h)
    obtain ⟨a, ha, hu, _⟩ := cat_out hk (by omega) hj
    rw [Nat.div_one] at ha; rw [Nat.mod_one] at hu
    have := hcell w (hm w hw) j a ha 0 u hu
    rw [add_none]; simpa using this
end te2
end Go.Mv

namespace Go.Mv
open Go Go.Proofs
section call
variable {P : Program} {rd : Option Nat} {ops : Array Oper} {p : Pst} {q : List Nat} {C : Ctx} {L M : Mem} {k : Nat} {tr : Tr} {E : Env}
variable {d : Nat} {ty : TypeId} {ps : String} {af : Array Edge} {g : Option (Nat × Bool)}
/-- At an interface's dynamic type T the method is the function f, its receiver the value itself. -/
def InvOk (P : Program) (T : TypeId) (name : String) (fid : FuncId) : Prop := ∀ v args w, (callMethod (.iface T v) name args).run P w = .ok (.enter fid (#[v] ++ args)) w
theorem invOk_of {T : TypeId} {name : String} {f : FuncId} {i : TypeInfo} {m : Method} {d0 : TypeDesc} (hi : P.info? T = some i) (hm : i.methods.find? (·.name == name) = some m) (hp : m.path.toList = []) (hf : m.func = some (f, false)) (hu : P.underlying T = some d0) (hd : ∀ e, d0 ≠ .pointer e)
    (hen : ∀ args w, (callFunc f args).run P w = .ok (.enter f args) w) : InvOk P T name f := fun v args w => by
  have hti : ∀ w, (typeInfo T).run P w = .ok i w := fun w => by simp [typeInfo, hi]
  unfold callMethod
  obtain ⟨n, hn⟩ : ∃ n, P.types.size + Made.depth = n + 1 := ⟨_, rfl⟩
  simp only [Sem.run_bind, run_program, Result.andThen_ok, hn, method, hti, hm, hp, hf, follow]
  simp only [Sem.run_pure, Result.andThen_ok, Sem.run_bind, receiverAt, run_underlying hu]
  cases d0 with
  | pointer e => exact absurd rfl (hd e)
  | _ => simp [Place.get, hen]
theorem run_invoke_go {r : Operand} {name : String} {xs : Array Operand} {ats : Array TypeId} {fid : FuncId} {T : TypeId} {rv : Value} {vs : List Value} {ρ : Operand → Value} {dst : Option Tmp} (hi : InvOk P T name fid)
    (hρ : ∀ x u, evalE E x = some u → ρ x = u) (hr : evalE E r = some (.iface T rv)) (ha : evalL E xs.toList = some vs) (w : World) :
    (execOp ρ ⟨dst, .call ⟨.invoke r name, xs, ats⟩, ty, ps, af, g⟩).run P w = .ok (.enter fid ((rv :: vs).toArray)) w := by
  have e : xs.map ρ = vs.toArray := by
    apply Array.toList_inj.1
    simpa using evalL_map hρ xs.toList vs ha
  have e2 : (#[Value.iface T rv] ++ vs.toArray).extract 1 (#[Value.iface T rv] ++ vs.toArray).size = vs.toArray := by
    apply Array.toList_inj.1
    simp
  simp only [execOp, resolve, e, hρ _ _ hr, Sem.run_bind, Sem.run_pure, Result.andThen, invoke]
  have e3 : (#[Value.iface T rv] ++ vs.toArray)[0]? = some (Value.iface T rv) := by simp
  rw [e3]
  simp only [e2]
  rw [hi rv vs.toArray w]
  congr 2
  apply Array.toList_inj.1
  simp
theorem TE_invM {r : Operand} {name : String} {xs : Array Operand} {ats : Array TypeId} {fid : FuncId} {T : TypeId} {rv : Value} {vs : List Value} (post : Value → Mem → Prop) (R A H0 : Mem) (hi : InvOk P T name fid) (ho : ops[k]? = some ⟨some d, .call ⟨.invoke r name, xs, ats⟩, ty, ps, af, g⟩) (hl : ld ops q k = true) (hg : GOK ops E g)
    (hr' : evalE E r = some (.iface T rv)) (ha : evalL E xs.toList = some vs) (hd : Nat.blt d C.N = true) (hX : ∀ e ∈ R, C.w0.heap.size ≤ e.1 ∨ e.1 ∈ C.X) (hM : ∀ a, cnt a (A ++ R) ≤ cnt a M)
    (hc : ∀ w, Hp H0 w → Calls P fid (rv :: vs).toArray w (Ret w (keys R) post)) (hs : ∀ a, cnt a H0 ≤ cnt a (A ++ R ++ L))
    (h : ∀ v H1, post v H1 → (∀ e ∈ H1, C.w0.heap.size ≤ e.1 ∨ e.1 ∈ C.X) → TE P rd ops p q C L tr ((d, v) :: E) (A ++ H1)) : TE P rd ops p q C L (.op k tr) E M :=
  TE_sp (A ++ R) (fun a => by rw [cnt_append a (A ++ R), cnt_append a M]; have := hM a; omega) <| TE_loud ho hl hg rfl fun a w hr hs0 => by
    rw [run_invoke_go hi (fun x u hu => hr.eval hu) hr' ha w]
    refine ⟨fun h => by simp [Fw] at h, ?_⟩
    have hcc : CallsIn (Fw rd) 0 P fid (rv :: vs).toArray w (Ret w (keys R) post) := (callsIn_wide (n := 0)).2 (hc w (hs0.hp.sp hs))
    refine CallsIn.mono hcc ?_
    rintro e w' ⟨v, H1, rfl, hp, hfr, hH1, hnew⟩
    have hs' : St C.w0 C.X (A ++ L ++ R) w := hs0.perm (perm_mid A R L)
    obtain ⟨h1, h2⟩ := hs'.after hX hfr hH1 hnew
    have h1' : St C.w0 C.X (A ++ H1 ++ L) w' := h1.perm (perm_mid A L H1)
    exact ⟨h1'.hp.right, h v H1 hp h2 _ _ (hr.put (by simpa using hd) v) h1'⟩
end call
section maps
variable {κ β : Type} [DecidableEq κ] {ek : κ → Value} {ev : β → Value}
theorem mpos_split {x : κ} : ∀ {l : List (ME κ β)} {i j : Nat} {e : ME κ β}, mpos x l i = some (j, e) → ∃ a b, l = a ++ e :: b ∧ j = i + a.length ∧ e.k = x ∧ ∀ f ∈ a, f.k ≠ x
  | [], i, j, e, h => by simp [mpos] at h
  | f :: r, i, j, e, h => by
    simp only [mpos] at h
    split at h
    · rename_i hx
      simp only [Option.some.injEq, Prod.mk.injEq] at h
      obtain ⟨rfl, rfl⟩ := h
      exact ⟨[], r, rfl, rfl, hx.symm, by simp⟩
    · rename_i hx
      obtain ⟨a, b, rfl, hj, hk, hn⟩ := mpos_split h
      refine ⟨f :: a, b, rfl, by rw [hj]; simp; omega, hk, fun g hg => ?_⟩
      rcases List.mem_cons.1 hg with rfl | hg
      · exact fun e => hx e.symm
      · exact hn g hg
theorem mget_mem {x : κ} {l : List (ME κ β)} {v : β} (h : mget x l = some v) : ∃ e ∈ l, e.k = x ∧ e.v = v := by
  unfold mget at h
  cases hp : mpos x l 0 with
  | none => rw [hp] at h; simp at h
  | some p =>
    obtain ⟨j, e⟩ := p
    rw [hp] at h
    simp only [Option.map_some, Option.some.injEq] at h
    obtain ⟨a, b, rfl, _, hk, _⟩ := mpos_split hp
    exact ⟨e, by simp, hk, h⟩
section rd
variable {P : Program} {ty : TypeId} {E : Env} {L : Mem} {x y : Operand} {T key elem : TypeId}
omit [DecidableEq κ] in
theorem RD.lenM {i r c : Nat} {l : List (ME κ β)} (hT : ∀ w, (underlying T).run P w = .ok (.map key elem) w) (hx : evalE E x = some (.map (some r))) (hi : L[i]? = some (r, mapO ek ev l c)) :
    RD P (.call ⟨.builtin .len, #[x], #[T]⟩) ty E L (.int .i64 l.length) := by
  refine RD.call_builtin (vs := [.map (some r)]) (by simp [evalL, hx]) fun w hw => ?_
  have hb : w.heap[r]? = some (mapO ek ev l c) := hw.get hi
  simp [builtin, Builtin.len_, hT, getObj_map hb, mapO, goInt]
end rd
section te
variable {P : Program} {rd : Option Nat} {ops : Array Oper} {p : Pst} {q : List Nat} {C : Ctx} {L M : Mem} {k : Nat} {tr : Tr} {E : Env}
variable {d : Nat} {ty : TypeId} {ps : String} {af : Array Edge} {g : Option (Nat × Bool)}
omit [DecidableEq κ] in
/-- .. that yields nothing. -/
theorem TE_obj0 {op : Op} {i b : Nat} {o o' : Obj} (ho : ops[k]? = some ⟨none, op, ty, ps, af, g⟩) (hl : ld ops q k = true) (hg : GOK ops E g) (hnd : notDefer op = true) (hi : M[i]? = some (b, o))
    (hrun : ∀ (ρ : Operand → Value) (w : World) dst pos af g, (∀ x u, evalE E x = some u → ρ x = u) → w.heap[b]? = some o → ((execOp ρ ⟨dst, op, ty, pos, af, g⟩).run P w = .ok .skip (w.putObj b o') ∨ ∃ v, (execOp ρ ⟨dst, op, ty, pos, af, g⟩).run P w = .ok (.value v) (w.putObj b o')))
    (hw : C.w0.heap.size ≤ b ∨ b ∈ C.X) (h : TE P rd ops p q C L tr E (M.set i (b, o'))) : TE P rd ops p q C L (.op k tr) E M :=
  TE_loud ho hl hg hnd fun a w hr hs => by
    have hb := hs.hp.get (i := i) (b := b) (o := o) (by
      obtain ⟨hlt, _⟩ := List.getElem?_eq_some_iff.1 hi
      rw [List.getElem?_append_left hlt]; exact hi)
    have hlt : b < w.heap.size := (Array.getElem?_eq_some_iff.1 hb).1
    have hst := hs.upd hi (w' := w.putObj b o') (o' := o') (World.putObj_heap_same hlt) (fun k hk => World.putObj_heap_other hk) rfl rfl rfl (by simp) rfl hw
    rcases hrun a.eval w none ps af g (fun x u hu => hr.eval hu) hb with h1 | ⟨v, h1⟩
    · rw [h1]; exact ⟨hst.hp.right, h _ _ (hr.put_none _) hst⟩
    · rw [h1]; exact ⟨hst.hp.right, h _ _ (hr.put_none _) hst⟩
theorem TE_mapUpd {T key elem : TypeId} {x y z : Operand} {r c : Nat} {l : List (ME κ β)} {a : κ} {v : β} (i : Nat) (M' : Mem) (ho : ops[k]? = some ⟨none, .mapUpdate T x y z, ty, ps, af, g⟩) (hg : GOK ops E g)
    (hT : P.underlying T = some (.map key elem)) (hq : KeyQ P key ek) (hx : evalE E x = some (.map (some r))) (hy : evalE E y = some (ek a)) (hz : evalE E z = some (ev v)) (hi : M[i]? = some (r, mapO ek ev l c)) (hw : C.w0.heap.size ≤ r ∨ r ∈ C.X)
    (hM : M.set i (r, mapO ek ev (mput a v l c).1 (mput a v l c).2) = M') (h : TE P rd ops p q C L tr E M') : TE P rd ops p q C L (.op k tr) E M := by
  subst hM
  refine TE_obj0 (o' := mapO ek ev (mput a v l c).1 (mput a v l c).2) ho (by simp [ld, ho]) hg rfl hi (fun ρ w dst pos af g hρ hb => ?_) hw h
  refine .inl ?_
  have hg' := getObj_map (P := P) hb
  have hf := run_findKey (ev := ev) hq a w l
  simp only [execOp, hρ _ _ hx, hρ _ _ hy, hρ _ _ hz, Instr.mapUpdate]
  simp only [Sem.run_bind, run_underlying hT, Result.andThen_ok, hg']
  simp only [mapO, Sem.run_bind, hq.chk, Result.andThen_ok, hf, mput]
  cases hm : mpos a l 0 with
  | none =>
    have hs := setObj_map (P := P) (l' := l ++ [⟨a, v, c⟩]) (c' := c + 1) hb
    simp only [mapO, List.map_append, List.map_cons, List.map_nil, meV] at hs
    simp [meV, hs]
  | some p =>
    obtain ⟨j, e⟩ := p
    obtain ⟨_, _, h3, h4⟩ := mpos_lt hm
    have hs := setObj_map (P := P) (l' := mat j v l) (c' := c) hb
    simp only [mapO] at hs
    have hge : (l.map (meV ek ev)).toArray[j]? = some (meV ek ev e) := by simp only [Nat.sub_zero] at h3; simp [h3]
    have hkey : (meV ek ev e).key = ek a := by simp [meV, h4]
    have hst : ∀ w, (Instr.keyThatStays (ek a) (ek a)).run P w = .ok (ek a) w := fun w => by simp [Instr.keyThatStays, hq.bits]
    have hmod : (l.map (meV ek ev)).toArray.modify j (fun e => { e with key := ek a, val := ev v }) = ((mat j v l).map (meV ek ev)).toArray := by
      rw [← meV_modify]
      apply Array.ext_getElem?
      intro t
      simp only [Array.getElem?_modify]
      by_cases ht : j = t
      · subst ht; simp only [if_true, hge, Option.map_some, ← hkey]
      · simp [ht]
    simp only [Option.map_some, Sem.run_bind, hge, hkey, Option.getD_some, hst, Result.andThen_ok, hmod, hs, Sem.run_pure]
omit [DecidableEq κ] in
/-- A range over a map begins. -/
theorem TE_rangeM {T key elem : TypeId} {x : Operand} {r c : Nat} {l : List (ME κ β)} (i : Nat) (ho : ops[k]? = some ⟨some d, .range T x, ty, ps, af, g⟩) (hT : P.underlying T = some (.map key elem)) (hx : evalE E x = some (.map (some r))) (hi : (M ++ L)[i]? = some (r, mapO ek ev l c)) (hg : GOK ops E g) (hd : Nat.blt d C.N = true)
    (h : ∀ b, C.w0.heap.size ≤ b → TE P rd ops p q C L tr ((d, .pointer (some ⟨b, 0, none⟩)) :: E) ((b, .mapIter (some r) c #[] c) :: M)) : TE P rd ops p q C L (.op k tr) E M :=
  TE_new (vf := fun b => .pointer (some ⟨b, 0, none⟩)) ho (by simp [ld, ho]) hg rfl (fun ρ w _ _ _ _ hρ hw => by
    have hb : w.heap[r]? = some (mapO ek ev l c) := hw.get hi
    simp only [execOp, hρ _ _ hx, Sem.run_bind]
    rw [run_range_map w T key elem r _ c hT hb]
    rfl) hd h
omit [DecidableEq κ] in
theorem run_nextM {w : World} {T : TypeId} {b r since last c : Nat} {seen : Array Nat} {l : List (ME κ β)} (hb : w.heap[b]? = some (.mapIter (some r) since seen last)) (hr : w.heap[r]? = some (mapO ek ev l c)) (hold : ∀ e ∈ l, e.n < since) (hsl : since ≤ last) :
    ((∀ e ∈ l, e.n ∈ seen) ∧ (Instr.next (.pointer (some ⟨b, 0, none⟩)) false T).run P w = .ok (.tuple #[.bool false]) w) ∨
    ∃ e ∈ l, e.n ∉ seen ∧ ∃ w1 : World, (w1 = w ∨ w1 = w.drew) ∧ (Instr.next (.pointer (some ⟨b, 0, none⟩)) false T).run P w = .ok (.tuple #[.bool true, ek e.k, ev e.v]) (w1.putObj b (.mapIter (some r) since (seen.push e.n) c)) := by
  have hold' : ∀ x ∈ ((l.map (meV ek ev)).toArray).toList, x.born < since := fun x hx => by
    obtain ⟨e, he, rfl⟩ := List.mem_map.1 (by simpa using hx)
    exact hold e he
  simp only [Instr.next, getObj, Sem.run_bind, Sem.run, hb, hr, mapO, Result.andThen, next_test_false seen _ since last hold' hsl, Bool.false_eq_true, if_false]
  have hL : ∀ x ∈ (Array.filter (fun e => !seen.contains e.born) (l.map (meV ek ev)).toArray).toList, ∃ e ∈ l, x = meV ek ev e ∧ e.n ∉ seen := fun x hx => by
    simp only [Array.toList_filter, List.mem_filter] at hx
    obtain ⟨e, he, rfl⟩ := List.mem_map.1 hx.1
    exact ⟨e, he, rfl, by simpa [meV] using hx.2⟩
  have hN : Array.filter (fun e => !seen.contains e.born) (l.map (meV ek ev)).toArray = #[] → ∀ e ∈ l, e.n ∈ seen := fun h e he => by
    rw [Array.filter_eq_empty_iff] at h
    have := h (meV ek ev e) (by simpa using ⟨e, he, rfl⟩)
    simpa [meV] using this
  have hlt : ∀ x ∈ (Array.filter (fun e => !seen.contains e.born) (l.map (meV ek ev)).toArray).toList, x.born < since := fun x hx => by
    obtain ⟨e, he, rfl, _⟩ := hL x hx; exact hold e he
  generalize Array.filter (fun e => !seen.contains e.born) (l.map (meV ek ev)).toArray = A at hL hN hlt ⊢
  have e1 : A.filter (fun x => decide (x.born < since)) = A := Array.filter_eq_self.2 (fun x hx => by simpa using hlt x (by simpa using hx))
  have e2 : A.filter (fun x => decide (x.born ≥ since)) = #[] := by
    rw [Array.filter_eq_empty_iff]
    intro x hx
    have := hlt x (by simpa using hx)
    simp; omega
  simp only [e1, e2, Array.append_empty]
  by_cases h0 : A.size = 0
  · left
    have hA : A = #[] := Array.eq_empty_of_size_eq_zero h0
    subst hA
    refine ⟨hN rfl, ?_⟩
    simp [choose, Sem.run, Question.forced]
  · right
    have hne : A.isEmpty = false := by simp [Array.isEmpty, h0]
    simp only [hne, Bool.false_eq_true, if_false, Array.empty_append, Array.size_map]
    have hch : ∃ (j : Nat) (w1 : World), j < A.size ∧ (w1 = w ∨ w1 = w.drew) ∧ (choose (Question.mapNext A.size)).run P w = .ok j w1 := by
      by_cases hf : A.size ≤ 1
      · exact ⟨0, w, by omega, .inl rfl, by simp [choose, Sem.run, Question.forced, hf]⟩
      · exact ⟨_, w.drew, Nat.mod_lt _ (by omega), .inr rfl, by
          simp only [choose, Sem.run, Question.forced, decide_eq_true_eq, hf, if_false, Question.cut]
          rfl⟩
    obtain ⟨j, w1, hj, hw1, hrun⟩ := hch
    obtain ⟨e, he, hx, hs⟩ := hL A[j] (by simp)
    refine ⟨e, he, hs, w1, hw1, ?_⟩
    have hb1 : w1.heap[b]? = some (.mapIter (some r) since seen last) := by rcases hw1 with rfl | rfl <;> exact hb
    simp only [hrun, Array.getElem?_map, Array.getElem?_eq_getElem hj, Option.map_some, Sem.run_bind, Result.andThen, hx]
    simp [setObj, Sem.run, hb1, World.putObj, meV]
omit [DecidableEq κ] in
theorem TE_nextM {x : Operand} {i j b r since last c : Nat} {seen : Array Nat} {l : List (ME κ β)} (ho : ops[k]? = some ⟨some d, .next x false, ty, ps, af, g⟩) (hx : evalE E x = some (.pointer (some ⟨b, 0, none⟩))) (hg : GOK ops E g) (hd : Nat.blt d C.N = true)
    (hi : M[i]? = some (b, .mapIter (some r) since seen last)) (hj : (M ++ L)[j]? = some (r, mapO ek ev l c)) (hold : ∀ e ∈ l, e.n < since) (hsl : since ≤ last) (hw : C.w0.heap.size ≤ b ∨ b ∈ C.X)
    (h0 : (∀ e ∈ l, e.n ∈ seen) → TE P rd ops p q C L tr ((d, .tuple #[.bool false]) :: E) M)
    (h1 : ∀ e ∈ l, e.n ∉ seen → TE P rd ops p q C L tr ((d, .tuple #[.bool true, ek e.k, ev e.v]) :: E) (M.set i (b, .mapIter (some r) since (seen.push e.n) c))) : TE P rd ops p q C L (.op k tr) E M :=
  TE_loud ho (by simp [ld, ho]) hg rfl fun a w hr hs => by
    have hb := hs.hp.get (i := i) (b := b) (o := .mapIter (some r) since seen last) (by
      obtain ⟨hlt, _⟩ := List.getElem?_eq_some_iff.1 hi
      rw [List.getElem?_append_left hlt]; exact hi)
    have hm : w.heap[r]? = some (mapO ek ev l c) := hs.hp.get hj
    simp only [execOp, hr.eval hx, Sem.run_bind]
    rcases run_nextM (P := P) (T := ty) hb hm hold hsl with ⟨hall, hrun⟩ | ⟨e, he, hn, w1, hw1, hrun⟩
    · rw [hrun]
      exact ⟨hs.hp.right, h0 hall _ _ (hr.put (by simpa using hd) _) hs⟩
    · rw [hrun]
      have hs1 : St C.w0 C.X (M ++ L) w1 := by
        rcases hw1 with rfl | rfl
        · exact hs
        · exact ⟨hs.fr.drew, hs.hp.drew⟩
      have hb1 : w1.heap[b]? = some (.mapIter (some r) since seen last) := by rcases hw1 with rfl | rfl <;> exact hb
      have hlt : b < w1.heap.size := (Array.getElem?_eq_some_iff.1 hb1).1
      have hst := hs1.upd hi (w' := w1.putObj b (.mapIter (some r) since (seen.push e.n) c)) (World.putObj_heap_same hlt) (fun k hk => World.putObj_heap_other hk) rfl rfl rfl (by simp) rfl hw
      exact ⟨hst.hp.right, h1 e he hn _ _ (hr.put (by simpa using hd) _) hst⟩
omit [DecidableEq κ] in
theorem RD.entryM {x : Operand} {i j b r since c : Nat} {seen : Array Nat} {l : List (ME κ β)} {e : ME κ β} (hx : evalE E x = some (.pointer (some ⟨b, 0, none⟩))) (hi : L[i]? = some (b, .mapIter (some r) since (seen.push e.n) c)) (hj : L[j]? = some (r, mapO ek ev l c)) (hok : MOk l c) (he : e ∈ l) :
    RD P (.entry x) ty E L (.tuple #[ek e.k, ev e.v]) := fun ρ w _ _ _ _ hρ hL => by
  have hb : w.heap[b]? = some (.mapIter (some r) since (seen.push e.n) c) := hL.get hi
  have hm : w.heap[r]? = some (mapO ek ev l c) := hL.get hj
  have hf : ((l.map (meV ek ev)).toArray.find? fun x => x.born == e.n) = some (meV ek ev e) := by
    rw [List.find?_toArray]
    exact find_born (meV ek ev e) _ (by
      rw [List.map_map]
      have : (l.map ((·.born) ∘ meV ek ev)) = l.map (·.n) := rfl
      rw [this]
      exact (List.pairwise_map.2 hok.ns)) (List.mem_map_of_mem he)
  simp only [execOp, hρ _ _ hx, Instr.entry, getObj, Sem.run_bind, Sem.run, hb, hm, mapO, Result.andThen, Array.back?_push, hf]
  simp [meV]
end te
end maps
end Go.Mv
