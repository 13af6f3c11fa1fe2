import Derived.Test.YtjdjlcmajeikcaaMvH
namespace Go.Mv
open Go Go.Proofs
def gt {α : Type} [Inhabited α] (l : List α) (i : Nat) : α := l.getD i default
section gt
variable {α : Type} [Inhabited α] {l m : List α} {i : Nat}
theorem gt_some (h : i < l.length) : l[i]? = some (gt l i) := by
  unfold gt; rw [List.getD_eq_getElem?_getD, List.getElem?_eq_getElem h]; rfl
theorem gt_mem (h : i < l.length) : gt l i ∈ l := List.mem_of_getElem? (gt_some h)
end gt
section code
variable {P : Program} {rd : Option Nat} {p : Pst} {C : Ctx} {E : Env} {H : Mem} {ops : Array Oper} {id : Nat}
theorem pn_plainG (q : List Nat) (M0 : Mem) {n : Nat} (hn : ops.size = n) (hc : ∀ a, cnt a M0 ≤ cnt a H) (h : TE P rd ops p q C [] (line 0 n) E M0) : PN C (WP P rd (.region id ops false) p) E H :=
  pn_sp M0 hc (pn_plain q hn h)
theorem pn_drawG (q : List Nat) (M0 L0 : Mem) {n : Nat} (hn : ops.size = n) (hm : P.follows .mixedOrders = true) (hc : chk ops (ld ops q) (Region.before ops) = true)
    (hs : ∀ a, cnt a (M0 ++ L0) ≤ cnt a H) (h : TE P rd ops p q C L0 (line 0 n) E M0) : PN C (WP P rd (.region id ops true) p) E H :=
  pn_sp (M0 ++ L0) hs fun a w hr hw => by
    refine wp_draw hm hc hw.hp.right.drew ?_
    rw [hn, List.range_eq_range', ← TT_line]
    exact h a w.drew hr ⟨hw.fr.drew, hw.hp.drew⟩
theorem pn_drawLG (q : List Nat) (M0 L0 : Mem) (t : Tr) (hm : P.follows .mixedOrders = true) (hp : plainOps ops = true) (hc : chkL ops (ld ops q) ops.size [(Array.replicate ops.size false, t)] = true)
    (hs : ∀ a, cnt a (M0 ++ L0) ≤ cnt a H) (h : TE P rd ops p q C L0 t E M0) : PN C (WP P rd (.region id ops true) p) E H :=
  pn_sp (M0 ++ L0) hs fun a w hr hw => by
    exact wp_drawT hm hp (chkT_of_L ops (ld ops q) ops.size _ hc (Array.replicate ops.size false, t) List.mem_cons_self) hw.hp.right.drew (h a w.drew hr ⟨hw.fr.drew, hw.hp.drew⟩)
end code
def slp : Value → Nat → Value
  | .slice (some ⟨b, off, _⟩) _ _, o => .pointer (some ⟨b, off + o, none⟩)
  | v, _ => v
section rd
variable {P : Program} {ty : TypeId} {E : Env} {L H : Mem} {v u : Value} {x y z : Operand} {T U : TypeId}
section els
variable {α : Type} {sz : Nat} {enc : α → List Value} {l : List α}
theorem RD.idxR {el : TypeId} {k : IntKind} {i o : Nat} {c : Int} (hT : ∀ w, (underlying T).run P w = .ok (.slice el) w) (hz : ∀ w, (sizeOf el).run P w = .ok sz w) (hx : evalE E x = some v) (hb : Rdx sz enc H v l)
    (hy : evalE E y = some (.int k c)) (hi : c = (i : Int)) (h : i < l.length) (ho : i * sz = o) : RD P (.indexAddr T x y) ty E L (slp v o) := by
  subst ho
  rcases hb with ⟨rfl, rfl⟩ | ⟨b, off, cap, rfl, hcap, hc⟩
  · simp at h
  · exact RD.indexX hT hz hx hy hi h
theorem RD.fldR {f i o o' n : Nat} {fs : Array Field} {fl : Field} (hS : ∀ w, (underlying T).run P w = .ok (.struct fs) w) (hf : fs[f]? = some fl) (ho : o + fl.offset = o') (hz : ∀ w, (sizeOf fl.type).run P w = .ok (n + 1) w)
    (hx : evalE E x = some (slp v o)) (hb : Rdx sz enc H v l) (h : i < l.length) : RD P (.fieldAddr T x f) ty E L (slp v o') := by
  rcases hb with ⟨rfl, rfl⟩ | ⟨b, off, cap, rfl, hcap, hc⟩
  · simp at h
  · exact RD.fieldAddr hS hf (by rw [Nat.add_assoc, ho]) hz hx
theorem RD.idxArrS {i o o' len sz1 : Nat} {el : TypeId} {k : IntKind} {c : Int} (hS : ∀ w, (underlying T).run P w = .ok (.array len el) w) (hz : ∀ w, (sizeOf el).run P w = .ok sz1 w) (hx : evalE E x = some (slp v o)) (hb : Rdx sz enc H v l) (h : i < l.length)
    (hy : evalE E y = some (.int k c)) (ho : o + c.toNat * sz1 = o') (h0 : 0 ≤ c) (h1 : c < len) : RD P (.indexAddr T x y) ty E L (slp v o') := by
  subst ho
  rcases hb with ⟨rfl, rfl⟩ | ⟨b, off, cap, rfl, hcap, hc⟩
  · simp at h
  · have := RD.indexAddrA (P := P) (ty := ty) (L := L) hS hz hx hy h0 h1
    rw [Nat.add_assoc] at this; exact this
theorem RD.ldR {i j o : Nat} {a : α} (ha : ∀ w, (isAgg T).run P w = .ok false w) (hx : evalE E x = some (slp v o)) (hb : Rdx sz enc H v l) (hi : l[i]? = some a) (ho : o = i * sz + j) (hu : (enc a)[j]? = some u)
    (hm : ∀ w, Hp L w → Hp H w) : RD P (.load T x) ty E L u := by
  rcases hb with ⟨rfl, rfl⟩ | ⟨b, off, cap, rfl, hcap, hc⟩
  · simp at hi
  · subst ho
    exact RD.loadC ha hx (fun w hw => by rw [← Nat.add_assoc]; exact hc w (hm w hw) i a hi j u hu)
theorem RD.ldRA {i j o n : Nat} {a : α} {vs : List Value} (ha : ∀ w, (isAgg T).run P w = .ok true w) (hs : ∀ w, (sizeOf T).run P w = .ok n w) (hx : evalE E x = some (slp v o)) (hb : Rdx sz enc H v l) (hi : l[i]? = some a)
    (ho : o = i * sz + j) (hn : vs.length = n) (hu : ∀ t w, vs[t]? = some w → (enc a)[j + t]? = some w) (hv : Value.agg vs.toArray = u) (hm : ∀ w, Hp L w → Hp H w) : RD P (.load T x) ty E L u := by
  subst hv
  rcases hb with ⟨rfl, rfl⟩ | ⟨b, off, cap, rfl, hcap, hc⟩
  · simp at hi
  · subst ho
    exact RD.loadX ha hs hx hn (fun w hw t u ht => by rw [← Nat.add_assoc, Nat.add_assoc (off + i * sz)]; exact hc w (hm w hw) i a hi (j + t) u (hu t u ht))
end els
end rd
section te
variable {P : Program} {rd : Option Nat} {ops : Array Oper} {p : Pst} {q : List Nat} {C : Ctx} {L M : Mem} {k : Nat} {tr : Tr} {E : Env}
variable {d : Nat} {ty : TypeId} {ps : String} {af : Array Edge} {g : Option (Nat × Bool)}
theorem TE_allocC {T : TypeId} {z : Value} (cs : Array Value) (ho : ops[k]? = some ⟨some d, .alloc T, ty, ps, af, g⟩) (hz : ∀ w, (zeroValue T).run P w = .ok z w) (hcs : z.cells = cs) (hg : GOK ops E g) (hd : Nat.blt d C.N = true)
    (h : ∀ b, C.w0.heap.size ≤ b → TE P rd ops p q C L tr ((d, .pointer (some ⟨b, 0, none⟩)) :: E) ((b, .cells cs T (0, 0)) :: M)) : TE P rd ops p q C L (.op k tr) E M := by
  subst hcs; exact TE_alloc ho hz hg hd h
theorem TE_boxC {T : TypeId} {x : Operand} {u : Value} (cs : Array Value) (ho : ops[k]? = some ⟨some d, .box T x, ty, ps, af, g⟩) (hx : evalE E x = some u) (hcs : u.cells = cs) (hg : GOK ops E g) (hd : Nat.blt d C.N = true)
    (h : ∀ b, C.w0.heap.size ≤ b → TE P rd ops p q C L tr ((d, .pointer (some ⟨b, 0, none⟩)) :: E) ((b, .cells cs T (0, 0)) :: M)) : TE P rd ops p q C L (.op k tr) E M := by
  subst hcs; exact TE_box ho hx hg hd h
/-- A store of one cell. -/
theorem TE_storeC {T : TypeId} {x y : Operand} {b off : Nat} {t : TypeId} {v : Value} (i : Nat) (cs cs' : Array Value) (M' : Mem) (ho : ops[k]? = some ⟨none, .store T x y, ty, ps, af, g⟩) (hs : ∀ w, (sizeOf T).run P w = .ok 1 w) (hg : GOK ops E g)
    (hx : evalE E x = some (.pointer (some ⟨b, off, none⟩))) (hy : evalE E y = some v) (h1 : v.cells.toList = [v]) (h1' : v.oneCell' = true) (hi : M[i]? = some (b, .cells cs t (0, 0))) (hlen : Nat.blt off cs.size = true)
    (hcs : cs.setIfInBounds off v = cs') (hM : M.set i (b, .cells cs' t (0, 0)) = M') (hw : C.w0.heap.size ≤ b ∨ b ∈ C.X) (h : TE P rd ops p q C L tr E M') : TE P rd ops p q C L (.op k tr) E M := by
  subst hM; subst hcs; exact TE_store ho hs hg hx hy h1 h1' hi hlen hw h
/-- .. a whole block. -/
theorem TE_putCW {T : TypeId} {x y : Operand} {b n : Nat} {t : TypeId} {v : Value} (i : Nat) (cs cs' : Array Value) (M' : Mem) (ho : ops[k]? = some ⟨none, .store T x y, ty, ps, af, g⟩) (hs : ∀ w, (sizeOf T).run P w = .ok n w) (hg : GOK ops E g)
    (hx : evalE E x = some (.pointer (some ⟨b, 0, none⟩))) (hy : evalE E y = some v) (hn : Nat.beq v.cells.size n = true) (h1 : (v.cells.toList.all fun u => u.oneCell') = true) (hi : M[i]? = some (b, .cells cs t (0, 0))) (hlen : Nat.beq cs.size n = true)
    (hcs : v.cells = cs') (hM : M.set i (b, .cells cs' t (0, 0)) = M') (hw : C.w0.heap.size ≤ b ∨ b ∈ C.X) (h : TE P rd ops p q C L tr E M') : TE P rd ops p q C L (.op k tr) E M := by
  subst hM; subst hcs; exact TE_putW ho hs hg hx hy hn h1 hi hlen hw h
/-- A call that reads alone; what it lays comes ahead. -/
theorem TE_callG {f : Operand} {xs : Array Operand} {ats : Array TypeId} {fid : FuncId} {fs cap : Array Value} {vs : List Value} (post : Value → Mem → Prop) (H0 : Mem) (ho : ops[k]? = some ⟨some d, .call ⟨.value f, xs, ats⟩, ty, ps, af, g⟩) (hl : ld ops q k = true) (hg : GOK ops E g)
    (hen : ∀ args w, (callFunc fid args).run P w = .ok (.enter fid args) w) (hf : evalE E f = some (.func (.func fid) fs cap)) (ha : evalL E xs.toList = some vs) (hd : Nat.blt d C.N = true)
    (hc : ∀ w, Hp H0 w → Calls P fid (fs.toList ++ vs ++ cap.toList).toArray w (Ret w [] post)) (hs : ∀ a, cnt a H0 ≤ cnt a (M ++ L))
    (h : ∀ v H1, post v H1 → (∀ e ∈ H1, C.w0.heap.size ≤ e.1) → TE P rd ops p q C L tr ((d, v) :: E) (H1 ++ M)) : TE P rd ops p q C L (.op k tr) E M :=
  TE_call ho hl hg hen hf ha hd (fun w hw => hc w (hw.hp.sp hs)) h
end te
theorem ownN {C : Ctx} {H : Mem} (h : ∀ e ∈ H, C.w0.heap.size ≤ e.1) : ∀ e ∈ H, C.w0.heap.size ≤ e.1 ∨ e.1 ∈ C.X := fun e he => .inl (h e he)
@[simp] theorem bldVx_none {α : Type} (l : List α) : bldVx l none = .slice none 0 0 := rfl
theorem own0 {n : Nat} {X : List Nat} : ∀ e ∈ ([] : Mem), n ≤ e.1 ∨ e.1 ∈ X := fun _ he => nomatch he
theorem ownA {n : Nat} {X : List Nat} {A B : Mem} (h1 : ∀ e ∈ A, n ≤ e.1 ∨ e.1 ∈ X) (h2 : ∀ e ∈ B, n ≤ e.1 ∨ e.1 ∈ X) : ∀ e ∈ A ++ B, n ≤ e.1 ∨ e.1 ∈ X := fun e he => by
  rcases List.mem_append.1 he with he | he
  · exact h1 e he
  · exact h2 e he
theorem bvx_cells {α : Type} (l : List α) (st : SnkS) : (bldVx l st).cells.toList = [bldVx l st] := by
  rcases st with _ | ⟨b, c, tl⟩ <;> rfl
theorem bvx_one {α : Type} (l : List α) (st : SnkS) : (bldVx l st).oneCell' = true := by
  rcases st with _ | ⟨b, c, tl⟩ <;> rfl
theorem upon_Q {F : Fence} {n : Nat} {P : Program} {o : Oper} {a : Act} {w : World} {K : Act → World → Prop} {Q Q' : Exit → Act → World → Prop} (hP : ∀ c a w, Q (.panic c) a w → Q' (.panic c) a w) (hO : LetsOut Q → LetsOut Q')
    (hh : o.wpIn F n P a w K Q) : o.wpIn F n P a w K Q' := by
  unfold Oper.wpIn at *
  refine ⟨hh.1, ?_⟩
  have hh := hh.2
  generalize (o.semAt F.round a.eval).run P w = r at *
  cases r with
  | ok x w' =>
    cases x <;> simp only [Oper.uponIn] at hh ⊢ <;>
      first
        | exact hh
        | exact ⟨hh.1, CallsIn.mono hh.2 (fun e w'' he => by cases e <;> first | exact he | exact hP _ _ _ he | exact hO he)⟩
        | exact ⟨hh.1, RowsIn.mono hh.2 (fun _ _ he => he)⟩
        | exact ⟨hh.1, RoundIn.mono hh.2 (fun e w'' he => by cases e <;> first | exact he | exact hP _ _ _ he | exact hO he)⟩
  | halt x w' => cases x <;> simp only [Oper.uponIn] at hh ⊢ <;> first | exact hh | exact hP _ _ _ hh | exact hO hh
theorem wpOpIn_Q {F : Fence} {n i : Nat} {P : Program} {ops : Array Oper} {a : Act} {w : World} {K : Act → World → Prop} {Q Q' : Exit → Act → World → Prop} (hP : ∀ c a w, Q (.panic c) a w → Q' (.panic c) a w) (hO : LetsOut Q → LetsOut Q')
    (hh : wpOpIn F n P ops Q i K a w) : wpOpIn F n P ops Q' i K a w := by
  unfold wpOpIn at *
  split
  · rename_i ho; simpa only [ho] using hh
  · rename_i o ho
    simp only [ho] at hh
    split
    · rename_i hw; simp only [hw, if_true] at hh; exact upon_Q hP hO hh
    · rename_i hw; simp only [hw] at hh; exact hh
theorem TT_monoN {P : Program} {rd : Option Nat} {ops : Array Oper} {p : Pst} {n' : Act → World → Prop} {Lp : World → Prop} {loud : Nat → Bool} (hn : ∀ a w, n' a w → p.n a w) :
    ∀ (t : Tr) (a : Act) (w : World), TT P rd ops ({ p with n := n' } : Pst).Q Lp loud t a w → TT P rd ops p.Q Lp loud t a w
  | .nil, a, w, h => hn a w h
  | .fork s t, a, w, h => ⟨TT_monoN hn s a w h.1, TT_monoN hn t a w h.2⟩
  | .op i t, a, w, h => by
    rw [TT_op] at h ⊢
    unfold TS at h ⊢
    split
    · rename_i hi; rw [hi] at h; exact h
    · rename_i o hi
      rw [hi] at h
      dsimp only at h ⊢
      split
      · rename_i hl
        rw [if_pos hl] at h
        refine wpOpIn_Q (Q := ({ p with n := n' } : Pst).Q) (fun c a w hx => hx) (fun ⟨a, w, hx⟩ => ⟨a, w, hx⟩) ?_
        exact wpOpIn_mono (fun a w hk => ⟨hk.1, TT_monoN hn t a w hk.2⟩) h
      · rename_i hl
        rw [if_neg hl] at h
        obtain ⟨v, hv, ht⟩ := h
        exact ⟨v, hv, TT_monoN hn t _ w ht⟩
section te2
variable {P : Program} {rd : Option Nat} {ops : Array Oper} {p : Pst} {q : List Nat} {C : Ctx} {L M : Mem} {k : Nat} {tr : Tr} {E : Env}
variable {ty : TypeId} {ps : String} {af : Array Edge} {op : Op}
theorem TE_join {σ : Type} (EE : σ → Env) (HH : σ → Mem) (I : σ → Prop) (h1 : TE P rd ops { p with n := fun a w => ∃ s, I s ∧ Rep C.N C.ds (EE s) a ∧ St C.w0 C.X (HH s) w } q C L tr E M) (h2 : ∀ s, I s → PN C p.n (EE s) (HH s)) : TE P rd ops p q C L tr E M :=
  fun a w hr hs => TT_monoN (fun a w ⟨s, hI, hr, hs⟩ => h2 s hI a w hr hs) tr a w (h1 a w hr hs)
end te2
end Go.Mv
