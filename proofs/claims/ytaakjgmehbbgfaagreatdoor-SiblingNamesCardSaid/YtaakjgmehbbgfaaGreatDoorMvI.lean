import Derived.Test.YtaakjgmehbbgfaaGreatDoorMvH
namespace Go.Mv
open Go Go.Proofs
def gt {α : Type} [Inhabited α] (l : List α) (i : Nat) : α := l.getD i default
section gt
variable {α : Type} [Inhabited α] {l m : List α} {i : Nat}
theorem gt_some (h : i < l.length) : l[i]? = some (gt l i) := by
  unfold gt; rw [List.getD_eq_getElem?_getD, List.getElem?_eq_getElem h]; rfl
theorem gt_eq {x : α} (h : l[i]? = some x) : gt l i = x := by
  unfold gt; rw [List.getD_eq_getElem?_getD, h]; rfl
end gt
section code
variable {P : Program} {rd : Option Nat} {p : Pst} {C : Ctx} {E : Env} {H : Mem} {ops : Array Oper} {id : Nat}
theorem pn_plainG (q : List Nat) (M0 : Mem) {n : Nat} (hn : ops.size = n) (hc : ∀ a, cnt a M0 ≤ cnt a H) (h : TE P rd ops p q C [] (line 0 n) E M0) : PN C (WP P rd (.region id ops false) p) E H :=
  pn_sp M0 hc (pn_plain q hn h)
theorem pn_drawG (q : List Nat) (M0 L0 : Mem) {n : Nat} (hn : ops.size = n) (hm : P.follows .mixedOrders = true) (hc : chk ops (ld ops q) (Region.before ops) = true)
    (hs : ∀ a, cnt a (M0 ++ L0) ≤ cnt a H) (h : TE P rd ops p q C L0 (line 0 n) E M0) : PN C (WP P rd (.region id ops true) p) E H :=
  pn_sp (M0 ++ L0) hs fun a w hr hw => by
    refine wp_draw hm hc hw.hp.right.drew ?_
    rw [hn, List.range_eq_range', ← TT_line]
    exact h a w.drew hr ⟨hw.fr.drew, hw.hp.drew⟩
end code
section rd
variable {P : Program} {ty : TypeId} {E : Env} {L H : Mem} {v u : Value} {x y z : Operand} {T U : TypeId}
section els
variable {α : Type} {sz : Nat} {enc : α → List Value} {l : List α}
end els
end rd
section te
variable {P : Program} {rd : Option Nat} {ops : Array Oper} {p : Pst} {q : List Nat} {C : Ctx} {L M : Mem} {k : Nat} {tr : Tr} {E : Env}
variable {d : Nat} {ty : TypeId} {ps : String} {af : Array Edge} {g : Option (Nat × Bool)}
theorem TE_allocC {T : TypeId} {z : Value} (cs : Array Value) (ho : ops[k]? = some ⟨some d, .alloc T, ty, ps, af, g⟩) (hz : ∀ w, (zeroValue T).run P w = .ok z w) (hcs : z.cells = cs) (hg : GOK ops E g) (hd : Nat.blt d C.N = true)
    (h : ∀ b, C.w0.heap.size ≤ b → TE P rd ops p q C L tr ((d, .pointer (some ⟨b, 0, none⟩)) :: E) ((b, .cells cs T (0, 0)) :: M)) : TE P rd ops p q C L (.op k tr) E M := by
  subst hcs; exact TE_alloc ho hz hg hd h
theorem TE_boxC {T : TypeId} {x : Operand} {u : Value} (cs : Array Value) (ho : ops[k]? = some ⟨some d, .box T x, ty, ps, af, g⟩) (hx : evalE E x = some u) (hcs : u.cells = cs) (hg : GOK ops E g) (hd : Nat.blt d C.N = true)
    (h : ∀ b, C.w0.heap.size ≤ b → TE P rd ops p q C L tr ((d, .pointer (some ⟨b, 0, none⟩)) :: E) ((b, .cells cs T (0, 0)) :: M)) : TE P rd ops p q C L (.op k tr) E M := by
  subst hcs; exact TE_box ho hx hg hd h
/-- A store of one cell. -/
theorem TE_storeC {T : TypeId} {x y : Operand} {b off : Nat} {t : TypeId} {v : Value} (i : Nat) (cs cs' : Array Value) (M' : Mem) (ho : ops[k]? = some ⟨none, .store T x y, ty, ps, af, g⟩) (hs : ∀ w, (sizeOf T).run P w = .ok 1 w) (hg : GOK ops E g)
    (hx : evalE E x = some (.pointer (some ⟨b, off, none⟩))) (hy : evalE E y = some v) (h1 : v.cells.toList = [v]) (h1' : v.oneCell' = true) (hi : M[i]? = some (b, .cells cs t (0, 0))) (hlen : Nat.blt off cs.size = true)
    (hcs : cs.setIfInBounds off v = cs') (hM : M.set i (b, .cells cs' t (0, 0)) = M') (hw : C.w0.heap.size ≤ b ∨ b ∈ C.X) (h : TE P rd ops p q C L tr E M') : TE P rd ops p q C L (.op k tr) E M := by
  subst hM; subst hcs; exact TE_store ho hs hg hx hy h1 h1' hi hlen hw h
/-- A store of several. -/
theorem TE_putC {T : TypeId} {x y : Operand} {b off n : Nat} {t : TypeId} {v : Value} (i : Nat) (cs cs' : Array Value) (M' : Mem) (ho : ops[k]? = some ⟨none, .store T x y, ty, ps, af, g⟩) (hs : ∀ w, (sizeOf T).run P w = .ok n w) (hg : GOK ops E g)
    (hx : evalE E x = some (.pointer (some ⟨b, off, none⟩))) (hy : evalE E y = some v) (hn : Nat.beq v.cells.size n = true) (h1 : (v.cells.toList.all fun u => u.oneCell') = true) (hi : M[i]? = some (b, .cells cs t (0, 0))) (hlen : Nat.ble (off + n) cs.size = true)
    (hcs : putL cs off v.cells.toList = cs') (hM : M.set i (b, .cells cs' t (0, 0)) = M') (hw : C.w0.heap.size ≤ b ∨ b ∈ C.X) (h : TE P rd ops p q C L tr E M') : TE P rd ops p q C L (.op k tr) E M := by
  subst hM; subst hcs; exact TE_put ho hs hg hx hy hn h1 hi hlen hw h
/-- .. a whole block. -/
theorem TE_putCW {T : TypeId} {x y : Operand} {b n : Nat} {t : TypeId} {v : Value} (i : Nat) (cs cs' : Array Value) (M' : Mem) (ho : ops[k]? = some ⟨none, .store T x y, ty, ps, af, g⟩) (hs : ∀ w, (sizeOf T).run P w = .ok n w) (hg : GOK ops E g)
    (hx : evalE E x = some (.pointer (some ⟨b, 0, none⟩))) (hy : evalE E y = some v) (hn : Nat.beq v.cells.size n = true) (h1 : (v.cells.toList.all fun u => u.oneCell') = true) (hi : M[i]? = some (b, .cells cs t (0, 0))) (hlen : Nat.beq cs.size n = true)
    (hcs : v.cells = cs') (hM : M.set i (b, .cells cs' t (0, 0)) = M') (hw : C.w0.heap.size ≤ b ∨ b ∈ C.X) (h : TE P rd ops p q C L tr E M') : TE P rd ops p q C L (.op k tr) E M := by
  subst hM; subst hcs; exact TE_putW ho hs hg hx hy hn h1 hi hlen hw h
/-- A call that reads alone; what it lays comes ahead. -/
theorem TE_callG {f : Operand} {xs : Array Operand} {ats : Array TypeId} {fid : FuncId} {fs cap : Array Value} {vs : List Value} (post : Value → Mem → Prop) (H0 : Mem) (ho : ops[k]? = some ⟨some d, .call ⟨.value f, xs, ats⟩, ty, ps, af, g⟩) (hl : ld ops q k = true) (hg : GOK ops E g)
    (hen : ∀ args w, (callFunc fid args).run P w = .ok (.enter fid args) w) (hf : evalE E f = some (.func (.func fid) fs cap)) (ha : evalL E xs.toList = some vs) (hd : Nat.blt d C.N = true)
    (hc : ∀ w, Hp H0 w → Calls P fid (fs.toList ++ vs ++ cap.toList).toArray w (Ret w [] post)) (hs : ∀ a, cnt a H0 ≤ cnt a (M ++ L))
    (h : ∀ v H1, post v H1 → (∀ e ∈ H1, C.w0.heap.size ≤ e.1) → TE P rd ops p q C L tr ((d, v) :: E) (H1 ++ M)) : TE P rd ops p q C L (.op k tr) E M :=
  TE_call ho hl hg hen hf ha hd (fun w hw => hc w (hw.hp.sp hs)) h
/-- A call that turns the blocks of R. -/
theorem TE_callM {f : Operand} {xs : Array Operand} {ats : Array TypeId} {fid : FuncId} {fs cap : Array Value} {vs : List Value} (post : Value → Mem → Prop) (R A H0 : Mem) (ho : ops[k]? = some ⟨some d, .call ⟨.value f, xs, ats⟩, ty, ps, af, g⟩) (hl : ld ops q k = true) (hg : GOK ops E g)
    (hen : ∀ args w, (callFunc fid args).run P w = .ok (.enter fid args) w) (hf : evalE E f = some (.func (.func fid) fs cap)) (ha : evalL E xs.toList = some vs) (hd : Nat.blt d C.N = true)
    (hX : ∀ e ∈ R, C.w0.heap.size ≤ e.1 ∨ e.1 ∈ C.X) (hM : ∀ a, cnt a (A ++ R) ≤ cnt a M)
    (hc : ∀ w, Hp H0 w → Calls P fid (fs.toList ++ vs ++ cap.toList).toArray w (Ret w (keys R) post)) (hs : ∀ a, cnt a H0 ≤ cnt a (A ++ R ++ L))
    (h : ∀ v H1, post v H1 → (∀ e ∈ H1, C.w0.heap.size ≤ e.1 ∨ e.1 ∈ C.X) → TE P rd ops p q C L tr ((d, v) :: E) (A ++ H1)) : TE P rd ops p q C L (.op k tr) E M :=
  TE_callR A R hM ho hl hg hen hf ha hd hX (fun w hw => hc w (hw.hp.sp hs)) h
end te
theorem ownN {C : Ctx} {H : Mem} (h : ∀ e ∈ H, C.w0.heap.size ≤ e.1) : ∀ e ∈ H, C.w0.heap.size ≤ e.1 ∨ e.1 ∈ C.X := fun e he => .inl (h e he)
@[simp] theorem bldVx_none {α : Type} (l : List α) : bldVx l none = .slice none 0 0 := rfl
theorem own0 {n : Nat} {X : List Nat} : ∀ e ∈ ([] : Mem), n ≤ e.1 ∨ e.1 ∈ X := fun _ he => nomatch he
theorem ownC {n : Nat} {X : List Nat} {b : Nat} {o : Obj} {H : Mem} (h1 : n ≤ b ∨ b ∈ X) (h2 : ∀ e ∈ H, n ≤ e.1 ∨ e.1 ∈ X) : ∀ e ∈ (b, o) :: H, n ≤ e.1 ∨ e.1 ∈ X := fun e he => by
  rcases List.mem_cons.1 he with rfl | he
  · exact h1
  · exact h2 e he
section te2
variable {P : Program} {rd : Option Nat} {ops : Array Oper} {p : Pst} {q : List Nat} {C : Ctx} {L M : Mem} {k : Nat} {tr : Tr} {E : Env}
variable {ty : TypeId} {ps : String} {af : Array Edge} {op : Op}
/-- copy out of what can be read, all of it, into a block. -/
theorem TE_copyR {α : Type} {enc : α → List Value} {x y : Operand} {dT sT el : TypeId} {by' : Nat} {z xv : Value} {b o dLen dCap : Nat} {t : TypeId} {H0 : Mem} {d : Nat} {g : Option (Nat × Bool)} (i : Nat) (ys : List α) (cur cur' : Array Value) (M' : Mem) (ho : ops[k]? = some ⟨some d, .call ⟨.builtin .copy, #[x, y], #[dT, sT]⟩, ty, ps, af, g⟩) (hl : ld ops q k = true) (hg : GOK ops E g) (hd : Nat.blt d C.N = true)
    (hT : P.underlying dT = some (.slice el)) (hz : ∀ w, (sizeOf el).run P w = .ok 1 w) (hI : ElI P el 1 by' z) (hk : ∀ x, (enc x).length = 1) (h1 : ∀ x, ∀ v ∈ enc x, v.oneCell' = true) (hx : evalE E x = some (.slice (some ⟨b, o, none⟩) dLen dCap)) (hy : evalE E y = some xv)
    (hb : Rdx 1 enc H0 xv ys) (hm : ∀ w, Hp (M ++ L) w → Hp H0 w) (hn : ys.length ≤ dLen) (hi : M[i]? = some (b, .cells cur t (0, 0))) (hfit : o + ys.length ≤ cur.size) (hw : C.w0.heap.size ≤ b ∨ b ∈ C.X)
    (hc : putL cur o (cat enc ys) = cur') (hM : M.set i (b, .cells cur' t (0, 0)) = M') (h : TE P rd ops p q C L tr ((d, .int .i64 ys.length) :: E) M') : TE P rd ops p q C L (.op k tr) E M := by
  subst hc; subst hM
  have hlen : (cat enc ys).length = ys.length := by rw [cat_len hk, Nat.mul_one]
  rcases hb with ⟨rfl, rfl⟩ | ⟨b', off, cap, rfl, hcap, hcell⟩
  · rw [show putL cur o (cat enc ([] : List α)) = cur from rfl, set_same hi] at h
    exact TE_l ho hl hg rfl (RD.copyNil hT hz hx hy) hd h
  · refine TE_copy ho hl hg hd hT hI hx hy (cs := cat enc ys) (by rw [hlen]; exact (Nat.min_eq_left hn).symm) (fun w hw j u hj => ?_) hi (by rw [hlen]; exact hfit) (cat_one h1 ys) hw (by rw [hlen]; exact h)
    obtain ⟨a, ha, hu, _⟩ := cat_out hk (by omega) hj
    rw [Nat.div_one] at ha; rw [Nat.mod_one] at hu
    have := hcell w (hm w hw) j a ha 0 u hu
    rw [add_none]; simpa using this
end te2
end Go.Mv
