import Derived.Test.YtcmnmigcalibdaaGreatDoorGag
import Derived.Deep.AppendSrc
import Derived.Stop.Looks
import Derived.Test.YtcmnmigcalibdaaGreatDoorProg
namespace Go.Mv
open Go Go.Proofs
def clipV : Value → Value
  | .slice a n _ => .slice a n n
  | v => v
theorem Rdx.clip {α : Type} {sz : Nat} {enc : α → List Value} {H : Mem} {v : Value} {xs : List α} (h : Rdx sz enc H v xs) : Rdx sz enc H (clipV v) xs := by
  rcases h with ⟨⟨a0, rfl⟩, rfl⟩ | ⟨b, off, cap, rfl, h1, h2⟩
  · exact .inl ⟨⟨_, rfl⟩, rfl⟩
  · exact .inr ⟨b, off, xs.length, rfl, Nat.le_refl _, h2⟩
theorem Rdb.clip {H : Mem} {v : Value} {xs : List UInt8} (h : Rdb H v xs) : Rdb H (clipV v) xs := Rdb.of_x (Rdx.of_b h).clip
section rd
variable {P : Program} {ty : TypeId} {E : Env} {L : Mem} {v u : Value} {x y z : Operand} {T U : TypeId}
theorem RD.clipX {α : Type} {sz : Nat} {enc : α → List Value} {H : Mem} {xs : List α} {el : TypeId} {hi mx : Operand} {k1 k2 : IntKind} (hT : ∀ w, (underlying T).run P w = .ok (.slice el) w) (hz : ∀ w, (sizeOf el).run P w = .ok sz w) (hx : evalE E x = some v) (hb : Rdx sz enc H v xs)
    (hh : evalE E hi = some (.int k1 (xs.length : Int))) (hm : evalE E mx = some (.int k2 (xs.length : Int))) : RD P (.slice T x none (some hi) (some mx)) ty E L (clipV v) := fun ρ w _ _ _ _ hρ _ => by
  rcases hb with ⟨⟨a0, rfl⟩, rfl⟩ | ⟨b, off, cap, rfl, h3, h4⟩
  · simp [execOp, Instr.sliceAt, Instr.slice, Instr.sliceBounds, Instr.sliceBound, asIntOf, hT, hz, hρ _ _ hx, hρ _ _ hh, hρ _ _ hm, clipV]
  · simp [execOp, Instr.sliceAt, Instr.slice, Instr.sliceBounds, Instr.sliceBound, asIntOf, hT, hz, hρ _ _ hx, hρ _ _ hh, hρ _ _ hm, clipV, Addr.add, h3]
end rd
section te
variable {P : Program} {rd : Option Nat} {ops : Array Oper} {p : Pst} {q : List Nat} {C : Ctx} {E : Env} {M L : Mem} {k : Nat} {tr : Tr} {ty : TypeId} {ps : String} {af : Array Edge} {g : Option (Nat × Bool)} {d : Nat}
/-- append onto a slice whose room is cut off: it is laid anew, or nothing is appended. -/
theorem TE_appendC {α : Type} {sz by' : Nat} {enc : α → List Value} {s x : Operand} {sT el : TypeId} {z xv v : Value} {xs ys : List α} {H0 H2 : Mem} (hk : ∀ x, (enc x).length = sz) (h1 : ∀ x, ∀ v ∈ enc x, v.oneCell' = true)
    (ho : ops[k]? = some ⟨some d, .call ⟨.builtin .append, #[s, x], #[sT, sT]⟩, ty, ps, af, g⟩) (hl : ld ops q k = true) (hg : GOK ops E g) (hd : Nat.blt d C.N = true)
    (hT : P.underlying sT = some (.slice el)) (hI : ElI P el sz by' z) (hzs : Nat.beq z.cells.size sz = true) (hsz : Nat.blt 0 sz = true)
    (hs : evalE E s = some (clipV v)) (hx : evalE E x = some xv) (hb : Rdx sz enc H0 v xs) (hb0 : ∀ w, Hp (M ++ L) w → Hp H0 w) (hb2 : Rdx sz enc H2 xv ys) (hb3 : ∀ w, Hp (M ++ L) w → Hp H2 w)
    (hlen : xs.length + ys.length ≤ 137438953472) (hby : Nat.ble by' 1024 = true)
    (h : ∀ v' Hn, Rdx sz enc (Hn ++ H0) v' (xs ++ ys) → (∀ e ∈ Hn, C.w0.heap.size ≤ e.1 ∨ e.1 ∈ C.X) → TE P rd ops p q C L tr ((d, v') :: E) (Hn ++ M)) : TE P rd ops p q C L (.op k tr) E M := by
  have hs0 : 0 < sz := by simpa using hsz
  have hbytes : (xs.length + ys.length) * by' ≤ 140737488355328 := Nat.le_trans (Nat.mul_le_mul hlen (Nat.le_of_ble_eq_true hby)) (by decide)
  have hbc := hb.clip
  by_cases hy : ys = []
  · subst hy
    obtain ⟨a, c, rfl⟩ := hb2.shape
    obtain ⟨a', c', rfl⟩ := hb.shape
    have h9 := h (clipV (.slice a' xs.length c')) [] (by rw [List.append_nil]; exact hbc) (by intro e he; cases he)
    exact TE_l ho hl hg rfl (RD.append0 hT hI hs hx (Nat.le_refl _)) hd h9
  · refine TE_loud ho hl hg rfl fun a w hr hst => ?_
    obtain ⟨i0, hi0, hz0, hz1, hz2⟩ := info_parts hI
    subst hz1
    obtain ⟨ad, c, rfl, hread⟩ := hb2.src (C := C) hk hs0 hy hb3
    have hsrc : Go.Src P i0.size sT (.slice (some ad) ys.length c) ys.length (cat enc ys) w := Go.Src.ofSlice w hT ad _ c _ (cat_len hk ys) (hread w hst) (cat_one h1 ys)
    obtain ⟨a', c', hv⟩ := hb.shape
    have hcv : clipV v = .slice a' xs.length xs.length := by rw [hv]; rfl
    have hold : (Builtin.firstCells i0.size xs.length (.slice a' xs.length xs.length)).run P w.drew = .ok (cat enc xs).toArray w.drew := by
      by_cases hx0 : xs = []
      · subst hx0
        rcases hb with ⟨⟨a1, h5⟩, _⟩ | ⟨b, off, cap, h5, _, _⟩
        · rw [h5] at hv
          cases hv
          rcases a' with _ | ad1
          · exact (Go.Src.ofNil (size := i0.size) w hT 0).cellsD
          · exact (Go.Src.ofSlice (size := i0.size) w hT ad1 0 0 [] (by simp) (by simp) (by simp)).cellsD
        · rw [h5] at hv
          cases hv
          exact (Go.Src.ofSlice (size := i0.size) w hT ⟨b, off, none⟩ 0 0 [] (by simp) (by simp) (by simp)).cellsD
      · obtain ⟨ad2, c2, h6, hread2⟩ := hbc.src (C := C) hk hs0 hx0 hb0
        rw [hcv] at h6
        cases h6
        exact (Go.Src.ofSlice (size := i0.size) w hT ad2 xs.length xs.length _ (cat_len hk xs) (hread2 w hst) (cat_one h1 xs)).cellsD
    have hpos : 0 < ys.length := List.length_pos_iff.2 hy
    have hrun := run_append_grow_src (P := P) w sT sT ty el i0 z hT hi0 hz0 a' xs.length xs.length (cat enc xs) hold (.slice (some ad) ys.length c) ys.length (cat enc ys) hsrc (by omega) (by omega) (growslice_fits (by omega) (by rw [hz2]; exact hbytes))
    have hge := grownCap_ge w (xs.length + ys.length) xs.length el
    generalize grownCap w (xs.length + ys.length) xs.length el = gc at hrun hge
    rw [run_append_op ((hr.eval hs).trans hcv) (hr.eval hx) hrun]
    have hs' : St C.w0 C.X (M ++ L) w.drew := ⟨hst.fr.drew, hst.hp.drew⟩
    have hcells : ((cat enc xs ++ cat enc ys).toArray ++ Builtin.zeroCells z.cells (gc - (xs.length + ys.length))) = (cat enc (xs ++ ys) ++ (Builtin.zeroCells z.cells (gc - (xs.length + ys.length))).toList).toArray := by
      rw [cat_append]
      apply Array.toList_inj.1
      simp
    rw [hcells]
    have hn := hs'.new (.cells (cat enc (xs ++ ys) ++ (Builtin.zeroCells z.cells (gc - (xs.length + ys.length))).toList).toArray el (0, 0))
    have hrx : Rdx i0.size enc [(w.heap.size, .cells (cat enc (xs ++ ys) ++ (Builtin.zeroCells z.cells (gc - (xs.length + ys.length))).toList).toArray el (0, 0))] (.slice (some ⟨w.heap.size, 0, none⟩) (xs.length + ys.length) gc) (xs ++ ys) := Rdx.blk (i := 0) hk rfl (by simp) (by simpa using hge)
    exact ⟨hn.hp.sub (List.sublist_append_right (_ :: M) L), h _ [(w.heap.size, _)] (hrx.mono fun w h => h.sub (List.sublist_append_left _ _)) (by intro e he; obtain rfl := List.mem_singleton.1 he; exact .inl hst.fr.size) _ _ (hr.put (by simpa using hd) _) hn⟩
end te
theorem tmod_nat (a b : Nat) : ((a : Int).tmod (b : Int)) = ((a % b : Nat) : Int) := by rw [Int.tmod_eq_emod_of_nonneg (by omega)]; simp
section te2
variable {P : Program} {rd : Option Nat} {ops : Array Oper} {p : Pst} {q : List Nat} {C : Ctx} {E : Env} {M L : Mem} {k : Nat} {tr : Tr} {ty : TypeId} {ps : String} {af : Array Edge}
/-- copy out of what can be read, as much as there is room for, into a block. -/
theorem TE_copyM {α : Type} {enc : α → List Value} {x y : Operand} {dT sT el : TypeId} {by' : Nat} {z xv : Value} {b o dLen dCap : Nat} {t : TypeId} {H0 : Mem} {d : Nat} {g : Option (Nat × Bool)} (i : Nat) (m : Nat) (ys : List α) (cur cur' : Array Value) (M' : Mem) (ho : ops[k]? = some ⟨some d, .call ⟨.builtin .copy, #[x, y], #[dT, sT]⟩, ty, ps, af, g⟩) (hl : ld ops q k = true) (hg : GOK ops E g) (hd : Nat.blt d C.N = true)
    (hT : P.underlying dT = some (.slice el)) (hz : ∀ w, (sizeOf el).run P w = .ok 1 w) (hI : ElI P el 1 by' z) (hk : ∀ x, (enc x).length = 1) (h1 : ∀ x, ∀ v ∈ enc x, v.oneCell' = true) (hx : evalE E x = some (.slice (some ⟨b, o, none⟩) dLen dCap)) (hy : evalE E y = some xv)
    (hb : Rdx 1 enc H0 xv ys) (hm : ∀ w, Hp (M ++ L) w → Hp H0 w) (hn : m = min ys.length dLen) (hi : M[i]? = some (b, .cells cur t (0, 0))) (hfit : o + m ≤ cur.size) (hw : C.w0.heap.size ≤ b ∨ b ∈ C.X)
    (hc : putL cur o (cat enc (ys.take m)) = cur') (hM : M.set i (b, .cells cur' t (0, 0)) = M') (h : TE P rd ops p q C L tr ((d, .int .i64 m) :: E) M') : TE P rd ops p q C L (.op k tr) E M := by
  subst hc; subst hM
  have hmle : m ≤ ys.length := by omega
  have hlen : (cat enc (ys.take m)).length = m := by rw [cat_len hk, Nat.mul_one, List.length_take, Nat.min_eq_left hmle]
  rcases hb with ⟨⟨a0, rfl⟩, rfl⟩ | ⟨b', off, cap, rfl, hcap, hcell⟩
  · obtain rfl : m = 0 := by simpa using hmle
    rw [show putL cur o (cat enc (([] : List α).take 0)) = cur from rfl, set_same hi] at h
    exact TE_l ho hl hg rfl (RD.copyNil hT hz hx hy) hd h
  · refine TE_copy ho hl hg hd hT hI hx hy (cs := cat enc (ys.take m)) (by rw [hlen]; exact hn) (fun w hw j u hj => ?_) hi (by rw [hlen]; exact hfit) (cat_one h1 _) hw (by rw [hlen]; exact h)
    obtain ⟨a, ha, hu, _⟩ := cat_out hk (by omega) hj
    rw [Nat.div_one] at ha; rw [Nat.mod_one] at hu
    have ha' : ys[j]? = some a := by
      rw [List.getElem?_take] at ha
      split at ha
      · exact ha
      · cases ha
    have := hcell w (hm w hw) j a ha' 0 u hu
    rw [add_none]; simpa using this
end te2
section rd2
variable {P : Program} {ty : TypeId} {E : Env} {L : Mem} {v u : Value} {x y z : Operand} {T U : TypeId}
theorem RD.sliceAL {b off n sz : Nat} {el : TypeId} {lo : Operand} {k : IntKind} {l : Nat} {zi : Int} (hT : ∀ w, (underlying T).run P w = .ok (.array n el) w) (hz : ∀ w, (sizeOf el).run P w = .ok sz w) (hx : evalE E x = some (.pointer (some ⟨b, off, none⟩)))
    (hlo : evalE E lo = some (.int k zi)) (hzi : zi = (l : Int)) (h1 : l < n) :
    RD P (.slice T x (some lo) none none) ty E L (.slice (some ⟨b, off + l * sz, none⟩) (n - l) (n - l)) := fun ρ w _ _ _ _ hρ _ => by
  subst hzi
  have h3 : l ≤ n := by omega
  have h4 : ¬ (n = l) := by omega
  simp [execOp, Instr.sliceAt, Instr.sureAddr, Instr.sliceBounds, Instr.sliceBound, asIntOf, hT, hz, hρ _ _ hx, hρ _ _ hlo, Addr.add, h3, h4]
end rd2
end Go.Mv

namespace Go.Mv
open Go Go.Proofs
section region
variable {P : Program} {rd : Option Nat} {ops : Array Oper} {Q : Exit → Act → World → Prop} {Lp : World → Prop} {loud : Nat → Bool}
/-- What a load comes to in this world. -/
def QW (P : Program) (ops : Array Oper) (o : Oper) (a : Act) (w : World) (v : Value) : Prop :=
  (Region.wanted o (yielded ops a.tmps) = true → (execOp a.eval o).run P w = .ok (.value v) w) ∧ (Region.wanted o (yielded ops a.tmps) = false → v = undef)
theorem QW.congr {o : Oper} {a b : Act} {w : World} {v : Value} (he : execOp b.eval o = execOp a.eval o) (hw : Region.wanted o (yielded ops b.tmps) = Region.wanted o (yielded ops a.tmps))
    (h : QW P ops o a w v) : QW P ops o b w v := by
  unfold QW at *; rw [he, hw]; exact h
end region
theorem Rdb.blk {H : Mem} {i b cap : Nat} {tl : List Value} {t : TypeId} {fz : Nat × Nat} {ys : List UInt8} (hi : H[i]? = some (b, .cells (bcells ys ++ tl).toArray t fz)) (hc : ys.length ≤ cap) : Rdb H (.slice (some ⟨b, 0, none⟩) ys.length cap) ys :=
  .inr ⟨b, 0, cap, rfl, hc, fun w hw j u hj => by
    rw [cell_of hw (off := 0 + j) hi, Nat.zero_add, List.getElem?_toArray, List.getElem?_append_left (List.getElem?_eq_some_iff.1 hj).1]
    exact hj⟩
section te
variable {P : Program} {rd : Option Nat} {ops : Array Oper} {p : Pst} {q : List Nat} {C : Ctx} {L M : Mem} {k : Nat} {tr : Tr} {E : Env} {d : Nat} {ty : TypeId} {ps : String} {af : Array Edge} {g : Option (Nat × Bool)}
/-- []byte(s): a new block, with its room. -/
theorem TE_strB {src dst' el : TypeId} {x : Operand} {s : ByteArray} (ho : ops[k]? = some ⟨some d, .convert src dst' x, ty, ps, af, g⟩) (hl : ld ops q k = true) (hg : GOK ops E g) (hd : Nat.blt d C.N = true)
    (hS : P.underlying src = some .string) (hD : P.underlying dst' = some (.slice el)) (he : P.underlying el = some (.int .u8)) (hx : evalE E x = some (.string s))
    (h : ∀ b cap tl fz, C.w0.heap.size ≤ b → s.data.toList.length ≤ cap → TE P rd ops p q C L tr ((d, .slice (some ⟨b, 0, none⟩) s.data.toList.length cap) :: E) ((b, .cells (bcells s.data.toList ++ tl).toArray el fz) :: M)) : TE P rd ops p q C L (.op k tr) E M :=
  TE_loud ho hl hg rfl fun a w hr hs => by
    have hrun : (execOp a.eval ⟨some d, .convert src dst' x, ty, ps, af, g⟩).run P w = .ok (.value (.slice (some ⟨w.heap.size, 0, none⟩) s.size (grownCap w s.size 0 el)))
        (w.drew.alloc (.cells (bytesRow s (grownCap w s.size 0 el)) el ((bytesRow s (grownCap w s.size 0 el)).size, (bytesRow s (grownCap w s.size 0 el)).size + 1))) := by
      simp [execOp, hr.eval hx, run_bytes_of_string w src dst' el s hS hD he]
    rw [hrun, bytesRow_eq]
    have hs' : St C.w0 C.X (M ++ L) w.drew := ⟨hs.fr.drew, hs.hp.drew⟩
    have hge := grownCap_ge w s.size 0 el
    have hn := hs'.new (.cells (bcells s.data.toList ++ List.replicate (grownCap w s.size 0 el - s.size) (Value.int .u8 0)).toArray el ((bcells s.data.toList ++ List.replicate (grownCap w s.size 0 el - s.size) (Value.int .u8 0)).toArray.size, (bcells s.data.toList ++ List.replicate (grownCap w s.size 0 el - s.size) (Value.int .u8 0)).toArray.size + 1))
    have hsz : s.data.toList.length = s.size := by simp
    rw [← hsz] at hn hge ⊢
    exact ⟨hn.hp.sub (List.sublist_append_right (_ :: M) L), h w.heap.size _ _ _ hs.fr.size hge _ _ (hr.put (by simpa using hd) _) hn⟩
end te
end Go.Mv

namespace Go.Mv
open Go Go.Proofs
section te
variable {P : Program} {rd : Option Nat} {ops : Array Oper} {p : Pst} {q : List Nat} {C : Ctx} {L M : Mem} {k : Nat} {tr : Tr} {E : Env}
variable {d : Nat} {ty : TypeId} {ps : String} {af : Array Edge} {g : Option (Nat × Bool)} {v : Value} {x y z : Operand}
theorem qm (h0 : (ops[k]?, ld ops q k, evalE E x, Nat.blt d C.N) = (some ⟨some d, .move x, ty, ps, af, none⟩, false, some v, true)) (h : TE P rd ops p q C L tr ((d, v) :: E) M) : TE P rd ops p q C L (.op k tr) E M := by
  simp only [Prod.mk.injEq] at h0
  exact TE_q h0.1 h0.2.1 (RD.move h0.2.2.1) h0.2.2.2 h
theorem qa (h0 : (ops[k]?, ld ops q k, evalE E x, Nat.blt d C.N) = (some ⟨some d, .assign x, ty, ps, af, none⟩, false, some v, true)) (h : TE P rd ops p q C L tr ((d, v) :: E) M) : TE P rd ops p q C L (.op k tr) E M := by
  simp only [Prod.mk.injEq] at h0
  exact TE_q h0.1 h0.2.1 (RD.assign h0.2.2.1) h0.2.2.2 h
theorem qe {vs : Array Value} {i : Nat} (h0 : (ops[k]?, ld ops q k, evalE E x, vs[i]?, Nat.blt d C.N) = (some ⟨some d, .extract x i, ty, ps, af, none⟩, false, some (.tuple vs), some v, true)) (h : TE P rd ops p q C L tr ((d, v) :: E) M) : TE P rd ops p q C L (.op k tr) E M := by
  simp only [Prod.mk.injEq] at h0
  exact TE_q h0.1 h0.2.1 (RD.extract h0.2.2.1 h0.2.2.2.1) h0.2.2.2.2 h
theorem qT (h0 : (ops[k]?, ld ops q k, evalE E z, evalE E x, Nat.blt d C.N) = (some ⟨some d, .pick z x y, ty, ps, af, none⟩, false, some (.bool true), some v, true)) (h : TE P rd ops p q C L tr ((d, v) :: E) M) : TE P rd ops p q C L (.op k tr) E M := by
  simp only [Prod.mk.injEq] at h0
  exact TE_q h0.1 h0.2.1 (RD.pickT h0.2.2.1 h0.2.2.2.1) h0.2.2.2.2 h
theorem qF (h0 : (ops[k]?, ld ops q k, evalE E z, evalE E y, Nat.blt d C.N) = (some ⟨some d, .pick z x y, ty, ps, af, none⟩, false, some (.bool false), some v, true)) (h : TE P rd ops p q C L tr ((d, v) :: E) M) : TE P rd ops p q C L (.op k tr) E M := by
  simp only [Prod.mk.injEq] at h0
  exact TE_q h0.1 h0.2.1 (RD.pickF h0.2.2.1 h0.2.2.2.1) h0.2.2.2.2 h
theorem qn {a : Addr} (h0 : (ops[k]?, ld ops q k, evalE E x, Nat.blt d C.N) = (some ⟨some d, .nilCheck x, ty, ps, af, none⟩, false, some (.pointer (some a)), true)) (h : TE P rd ops p q C L tr ((d, .pointer (some a)) :: E) M) : TE P rd ops p q C L (.op k tr) E M := by
  simp only [Prod.mk.injEq] at h0
  exact TE_q h0.1 h0.2.1 (RD.nilCheckP h0.2.2.1) h0.2.2.2 h
theorem qg {j t : Nat} {b : Bool} (h0 : (ops[k]?, (ops[j]?).bind (·.dst), E.get t, ld ops q k, evalE E x, Nat.blt d C.N) = (some ⟨some d, .move x, ty, ps, af, some (j, b)⟩, some t, some (.bool b), false, some v, true)) (h : TE P rd ops p q C L tr ((d, v) :: E) M) : TE P rd ops p q C L (.op k tr) E M := by
  simp only [Prod.mk.injEq] at h0
  exact TE_gq h0.1 h0.2.1 h0.2.2.1 h0.2.2.2.1 (RD.move h0.2.2.2.2.1) h0.2.2.2.2.2 h
theorem qs {op : Op} {j t : Nat} {b b' : Bool} (h0 : (ops[k]?, (ops[j]?).bind (·.dst), E.get t, (b' == b), Nat.blt d C.N) = (some ⟨some d, op, ty, ps, af, some (j, b)⟩, some t, some (.bool b'), false, true)) (h : TE P rd ops p q C L tr ((d, undef) :: E) M) : TE P rd ops p q C L (.op k tr) E M := by
  simp only [Prod.mk.injEq] at h0
  exact TE_s h0.1 h0.2.1 h0.2.2.1 h0.2.2.2.1 h0.2.2.2.2 h
/-- Any quiet one, by its law. -/
theorem qq {op : Op} (h0 : (ops[k]?, ld ops q k, Nat.blt d C.N) = (some ⟨some d, op, ty, ps, af, none⟩, false, true)) (hv : RD P op ty E L v) (h : TE P rd ops p q C L tr ((d, v) :: E) M) : TE P rd ops p q C L (.op k tr) E M := by
  simp only [Prod.mk.injEq] at h0
  exact TE_q h0.1 h0.2.1 hv h0.2.2 h
/-- A loud reading. -/
theorem ql {op : Op} (h0 : (ops[k]?, ld ops q k, notDefer op, Nat.blt d C.N) = (some ⟨some d, op, ty, ps, af, g⟩, true, true, true)) (hv : RD P op ty E (M ++ L) v) (h : TE P rd ops p q C L tr ((d, v) :: E) M) (hg : GOK ops E g := by first | exact trivial | exact ⟨_, rfl, rfl⟩) : TE P rd ops p q C L (.op k tr) E M := by
  simp only [Prod.mk.injEq] at h0
  exact TE_l h0.1 h0.2.1 hg h0.2.2.1 hv h0.2.2.2 h
theorem n0 (h : PN C p.n E M) : TE P rd ops p q C [] .nil E M := TE_nil0 h
theorem tsp (M' : Mem) (h : TE P rd ops p q C L tr E M') (hc : ∀ a, cnt a (M' ++ L) ≤ cnt a (M ++ L) := by intro a; simp -failIfUnchanged <;> omega) : TE P rd ops p q C L tr E M := TE_sp M' hc h
/-- A call that reads alone. -/
theorem cG {f : Operand} {xs : Array Operand} {ats : Array TypeId} {fid : FuncId} {fs cap : Array Value} {vs : List Value} {post : Value → Mem → Prop} (h0 : (ops[k]?, ld ops q k, evalE E f, evalL E xs.toList, Nat.blt d C.N) = (some ⟨some d, .call ⟨.value f, xs, ats⟩, ty, ps, af, g⟩, true, some (.func (.func fid) fs cap), some vs, true))
    (hen : ∀ args w, (callFunc fid args).run P w = .ok (.enter fid args) w)
    (hc : ∀ w, Hp (M ++ L) w → Calls P fid (fs.toList ++ vs ++ cap.toList).toArray w (Ret w [] post))
    (h : ∀ v H1, post v H1 → (∀ e ∈ H1, C.w0.heap.size ≤ e.1) → TE P rd ops p q C L tr ((d, v) :: E) (H1 ++ M)) (hg : GOK ops E g := by first | exact trivial | exact ⟨_, rfl, rfl⟩) : TE P rd ops p q C L (.op k tr) E M := by
  simp only [Prod.mk.injEq] at h0
  exact TE_callG post (M ++ L) h0.1 h0.2.1 hg hen h0.2.2.1 h0.2.2.2.1 h0.2.2.2.2 hc (fun _ => Nat.le_refl _) h
/-- A call that turns the blocks of R. -/
theorem cM {f : Operand} {xs : Array Operand} {ats : Array TypeId} {fid : FuncId} {fs cap : Array Value} {vs : List Value} {post : Value → Mem → Prop} (R A : Mem) (h0 : (ops[k]?, ld ops q k, evalE E f, evalL E xs.toList, Nat.blt d C.N) = (some ⟨some d, .call ⟨.value f, xs, ats⟩, ty, ps, af, g⟩, true, some (.func (.func fid) fs cap), some vs, true))
    (hen : ∀ args w, (callFunc fid args).run P w = .ok (.enter fid args) w) (hX : ∀ e ∈ R, C.w0.heap.size ≤ e.1 ∨ e.1 ∈ C.X)
    (hc : ∀ w, Hp (A ++ R ++ L) w → Calls P fid (fs.toList ++ vs ++ cap.toList).toArray w (Ret w (keys R) post))
    (h : ∀ v H1, post v H1 → (∀ e ∈ H1, C.w0.heap.size ≤ e.1 ∨ e.1 ∈ C.X) → TE P rd ops p q C L tr ((d, v) :: E) (A ++ H1)) (hM : ∀ a, cnt a (A ++ R) ≤ cnt a M := by intro a; simp -failIfUnchanged <;> omega) (hg : GOK ops E g := by first | exact trivial | exact ⟨_, rfl, rfl⟩) : TE P rd ops p q C L (.op k tr) E M := by
  simp only [Prod.mk.injEq] at h0
  exact TE_callM post R A (A ++ R ++ L) h0.1 h0.2.1 hg hen h0.2.2.1 h0.2.2.2.1 h0.2.2.2.2 hX hM hc (fun _ => Nat.le_refl _) h
end te
section code
variable {P : Program} {rd : Option Nat} {p : Pst} {C : Ctx} {E : Env} {H : Mem} {ops : Array Oper} {id : Nat}
theorem sq {c1 c2 : Code} (h : PN C (WP P rd c1 { p with n := WP P rd c2 p }) E H) : PN C (WP P rd (c1.seq c2) p) E H := pn_seq h
theorem pl (h : TE P rd ops p [] C [] (line 0 ops.size) E H) : PN C (WP P rd (.region id ops false) p) E H := pn_plain [] rfl h
theorem rt (h : PN C p.r E H) : PN C (WP P rd .ret p) E H := pn_ret h
theorem sk (h : PN C p.n E H) : PN C (WP P rd .skip p) E H := pn_skip h
theorem xt {i : Nat} (h : PN C (p.x i) E H) : PN C (WP P rd (.exit i) p) E H := pn_exit h
theorem psp {K : Act → World → Prop} (H' : Mem) (h : PN C K E H') (hc : ∀ a, cnt a H' ≤ cnt a H := by intro a; simp -failIfUnchanged <;> omega) : PN C K E H := pn_sp H' hc h
theorem plG (q : List Nat) (M0 : Mem) (h : TE P rd ops p q C [] (line 0 ops.size) E M0) (hc : ∀ a, cnt a M0 ≤ cnt a H := by intro a; simp -failIfUnchanged <;> omega) : PN C (WP P rd (.region id ops false) p) E H := pn_plainG q M0 rfl hc h
theorem dG (q : List Nat) (M0 L0 : Mem) (h : TE P rd ops p q C L0 (line 0 ops.size) E M0) (hm : P.follows .mixedOrders = true := by rfl) (hc : chk ops (ld ops q) (Region.before ops) = true := by kernel_rfl) (hs : ∀ a, cnt a (M0 ++ L0) ≤ cnt a H := by intro a; simp -failIfUnchanged <;> omega) : PN C (WP P rd (.region id ops true) p) E H := pn_drawG q M0 L0 rfl hm hc hs h
theorem dS {fn : Func} {post : Value → Mem → Prop} {X : List Nat} {N : Nat} {w : World} {l : List ResultVar} {vs : List Value} (H1 : Mem) (hl : fn.results = l.toArray) (hv : resE E l = some vs) (hp : post (tupV vs) H1) (hn : ∀ e ∈ H1, w.heap.size ≤ e.1 ∨ e.1 ∈ X) (hc : ∀ a, cnt a H1 ≤ cnt a H := by intro a; simp -failIfUnchanged <;> omega) : PN ⟨N, [], w, X⟩ (retP P fn (Ret w X post)) E H := pn_doneS H1 hl hv hp hc hn
theorem agS {σ : Type} {EE : σ → Env} {HH : σ → Mem} {I : σ → Prop} {μ : σ → Nat} {n : Nat} (s' : σ) (hI : I s') (hm : μ s' < n) (hE : Keeps E (EE s')) (hc : ∀ a, cnt a (HH s') ≤ cnt a H := by intro a; simp -failIfUnchanged <;> omega) : PN C (fun a w => ∃ s', I s' ∧ μ s' < n ∧ Rep C.N C.ds (EE s') a ∧ St C.w0 C.X (HH s') w) E H := pn_againS s' hI hm hE hc
theorem lpS {σ : Type} {c : Code} (EE : σ → Env) (HH : σ → Mem) (I : σ → Prop) (μ : σ → Nat) (s0 : σ) (h0 : I s0) (hE : Keeps E (EE s0))
    (h : ∀ s, I s → PN C (WP P rd c { p with n := fun a w => ∃ s', I s' ∧ μ s' < μ s ∧ Rep C.N C.ds (EE s') a ∧ St C.w0 C.X (HH s') w }) (EE s) (HH s)) (hH : ∀ a, cnt a (HH s0) ≤ cnt a H := by intro a; simp -failIfUnchanged <;> omega) :
    PN C (WP P rd (.loop c) p) E H := pn_loopS EE HH I μ s0 h0 hE hH h
end code
theorem oL {A B : Mem} {Q : Nat × Obj → Prop} (h : ∀ e ∈ A ++ B, Q e) : ∀ e ∈ A, Q e := fun e he => h e (List.mem_append_left _ he)
theorem oR {A B : Mem} {Q : Nat × Obj → Prop} (h : ∀ e ∈ A ++ B, Q e) : ∀ e ∈ B, Q e := fun e he => h e (List.mem_append_right _ he)
theorem oC {a : Nat × Obj} {B : Mem} {Q : Nat × Obj → Prop} (h : ∀ e ∈ a :: B, Q e) : ∀ e ∈ B, Q e := fun e he => h e (List.mem_cons_of_mem _ he)
theorem sb {A B : Mem} (hc : ∀ a, cnt a B ≤ cnt a A := by intro a; simp -failIfUnchanged <;> omega) : ∀ w, Hp A w → Hp B w := fun _ h => h.sp hc
theorem Hp.s {A B : Mem} {w : World} (h : Hp A w) (hc : ∀ a, cnt a B ≤ cnt a A := by intro a; simp -failIfUnchanged <;> omega) : Hp B w := h.sp hc
theorem Rdb.s {H H' : Mem} {v : Value} {ys : List UInt8} (h : Rdb H v ys) (hc : ∀ a, cnt a H ≤ cnt a H' := by intro a; simp -failIfUnchanged <;> omega) : Rdb H' v ys := h.mono fun _ hw => hw.sp hc
theorem Rdx.s {α : Type} {sz : Nat} {enc : α → List Value} {H H' : Mem} {v : Value} {xs : List α} (h : Rdx sz enc H v xs) (hc : ∀ a, cnt a H ≤ cnt a H' := by intro a; simp -failIfUnchanged <;> omega) : Rdx sz enc H' v xs := h.mono fun _ hw => hw.sp hc
theorem BytesIn.s {H H' : Mem} {v : Value} {ys : List UInt8} (h : BytesIn H v ys) (hc : ∀ a, cnt a H ≤ cnt a H' := by intro a; simp -failIfUnchanged <;> omega) : BytesIn H' v ys := h.mono fun _ hw => hw.sp hc
end Go.Mv

namespace Go.Mv
open Go Go.Proofs
section te
variable {P : Program} {rd : Option Nat} {ops : Array Oper} {p : Pst} {q : List Nat} {C : Ctx} {L M : Mem} {k : Nat} {tr : Tr} {E : Env}
variable {d : Nat} {ty : TypeId} {ps : String} {af : Array Edge} {g : Option (Nat × Bool)}
/-- A call of a function for which the model stands in, that lays one block. -/
theorem TE_callX {f : Operand} {xs : Array Operand} {ats : Array TypeId} {fid : FuncId} {vs : List Value} {obj : Obj} {vf : Nat → Value} (ho : ops[k]? = some ⟨some d, .call ⟨.value f, xs, ats⟩, ty, ps, af, g⟩) (hl : ld ops q k = true) (hg : GOK ops E g) (hf : evalE E f = some (.func (.func fid) #[] #[])) (ha : evalL E xs.toList = some vs) (hd : Nat.blt d C.N = true)
    (hr : ∀ w, Hp (M ++ L) w → (callFunc fid vs.toArray).run P w = .ok (.value (vf w.heap.size)) (w.alloc obj))
    (h : ∀ b, C.w0.heap.size ≤ b → TE P rd ops p q C L tr ((d, vf b) :: E) ((b, obj) :: M)) : TE P rd ops p q C L (.op k tr) E M :=
  TE_new ho hl hg rfl (fun ρ w _ _ _ _ hρ hH => by
    have e : xs.map ρ = vs.toArray := by apply Array.toList_inj.1; simpa using evalL_map hρ _ _ ha
    have h := hr w hH
    simp only [execOp, resolve, hρ _ _ hf, e, Deferred.ofValue]
    simp only [Sem.run_bind, Sem.run_pure, Result.andThen_ok, invoke]
    simpa using h) hd h
end te
section rd
variable {P : Program} {ty : TypeId} {E : Env} {L : Mem} {x y z : Operand} {T U key elem : TypeId}
theorem RD.map_eql_nil {a : Option Nat} (hT : P.underlying T = some (.map key elem)) (hx : evalE E x = some (.map a)) (hy : evalE E y = some (.map none)) : RD P (.binOp .eql T x y U) ty E L (.bool a.isNone) :=
  RD.bin .eql (fun w => run_eql_of (by cases a <;> rfl) (by cases a <;> rfl) (fun d => by cases a <;> simp [Op.equalIn, run_underlying hT])) hx hy
theorem RD.mkIfaceM {a : Option Nat} (hT : P.underlying T = some (.map key elem)) (hx : evalE E x = some (.map a)) : RD P (.makeInterface T x) ty E L (.iface T (.map a)) := RD.mkIface hT (fun _ h => nomatch h) hx
theorem RD.assertM {a : Option Nat} {xT : TypeId} (hT : P.underlying T = some (.map key elem)) (hx : evalE E x = some (.iface T (.map a))) : RD P (.typeAssert x xT T false) ty E L (.map a) := fun ρ w _ _ _ _ hρ _ => by
  simp [execOp, hρ _ _ hx, Instr.typeAssert, run_underlying hT, go_sem, Result.andThen]
end rd
end Go.Mv

namespace Go.Mv
open Go Go.Proofs
section
/-- Iter with a part HC that is read alone. -/
def IterC {α : Type} (P : Program) (gf : FuncId) (lb : List Value) (encs : α → List Value) (HC HI : Mem) (xs : List α) (FI : List α → Mem → Prop) : Prop :=
  ∀ (σ : Type) (l : Nat) (HJ : σ → Mem) (G S : List α → σ → Prop) (w : World) (s0 : σ), G [] s0 → Hp (HI ++ (HJ s0 ++ HC)) w →
    (∀ pre x s W, G pre s → (pre ++ [x]) <+: xs → Fr w (keys (HI ++ HJ s0)) W → Hp (HJ s) W →
      Yd P l (encs x) W (Ret W (keys (HJ s)) fun v H1 => ∃ s', H1 = HJ s' ∧ ((v = .bool true ∧ G (pre ++ [x]) s') ∨ (v = .bool false ∧ S (pre ++ [x]) s')))) →
    Calls P gf (.func (.yield l) #[] #[] :: lb).toArray w (Ret w (keys (HI ++ HJ s0)) fun _ H1 => ∃ s' HI', H1 = HI' ++ HJ s' ∧ ((G xs s' ∧ FI xs HI') ∨ ∃ pre, pre <+: xs ∧ S pre s' ∧ FI pre HI'))
end
section range
variable {P : Program} {p : Pst} {C : Ctx} {E : Env} {H : Mem}
theorem pn_rangeC {α σ τ : Type} {g : Operand} {pl : List Nat} {assign body : Code} {gf : FuncId} {lb : List Value} {encs : α → List Value} {HC HI HR : Mem} {xs : List α} {FI : List α → Mem → Prop} (it : IterC P gf lb encs HC HI xs FI) (hC : HC.Sublist HR)
    (HJ : σ → Mem) (G : List α → σ → Prop) (S : Code → List α → σ → Prop) (s0 : σ) (h0 : G [] s0)
    (hg : evalE E g = some (.func (.func gf) #[] lb.toArray)) (hen : ∀ args w, (callFunc gf args).run P w = .ok (.enter gf args) w)
    (hps : ∀ x, (encs x).length = pl.length) (hpl : (pl.all fun t => Nat.blt t C.N) = true)
    (hH : ∀ w, Hp H w → Hp (HI ++ (HJ s0 ++ HR)) w)
    (hw : ∀ e ∈ HI ++ HJ s0, C.w0.heap.size ≤ e.1 ∨ e.1 ∈ C.X)
    (EA : α → τ → Env) (HA : α → τ → Mem) (A : World → τ → Prop)
    (hassign : ∀ (W : World) (l : Nat) (pre : List α) (x : α) (s : σ) (R : Mem), Fr C.w0 C.X W → G pre s → (pre ++ [x]) <+: xs →
      PN ⟨C.N, [], W, l :: keys (HJ s)⟩ (WP P (some l) assign ⟨fun a w => ∃ t, A W t ∧ Rep C.N [] (EA x t) a ∧ St W (l :: keys (HJ s)) (HA x t ++ (HJ s ++ (HR ++ R))) w, fun _ _ => False, fun _ _ _ => False, fun _ _ _ => False⟩) (psE pl (encs x) E) (HJ s ++ (HR ++ R)))
    (hbody : ∀ (W : World) (l : Nat) (pre : List α) (x : α) (s : σ) (t : τ) (R : Mem), Fr C.w0 C.X W → G pre s → (pre ++ [x]) <+: xs → A W t →
      PN ⟨C.N, [], W, l :: keys (HJ s)⟩ (WP P (some l) body (bodyP W l HJ s R G S (pre ++ [x]))) (EA x t) (HA x t ++ (HJ s ++ (HR ++ R))))
    (hdone : ∀ (D : Nat) (HI' : Mem) (s : σ), C.w0.heap.size ≤ D → G xs s → FI xs HI' → PN ⟨C.N, { target := .collected D, args := #[] } :: C.ds, C.w0, C.X⟩ p.n E (HJ s ++ (HI' ++ ((D, .deferred (some [])) :: HR))))
    (hstop : ∀ (D : Nat) (HI' : Mem) (c : Code) (pre : List α) (s : σ), C.w0.heap.size ≤ D → pre <+: xs → S c pre s → FI pre HI' → PN ⟨C.N, { target := .collected D, args := #[] } :: C.ds, C.w0, C.X⟩ (WP P none c p) E (HJ s ++ (HI' ++ ((D, .deferred (some [])) :: HR)))) :
    PN C (WP P none (.rangeFunc g pl.toArray assign body) p) E H := fun a w hr hs => by
  have hpk : Hp (HI ++ (HJ s0 ++ HR)) w := hH w hs.hp
  refine wpIn_rangeFunc ?_
  intro fn hfn
  obtain ⟨rec, hrec⟩ : ∃ rec : LoopState → Option Code → Loop, rec = fun st pe => { state := st, pending := pe, fn, tmps := a.tmps, params := pl.toArray, assign, body, defers := w.heap.size } := ⟨_, rfl⟩
  obtain ⟨D, hD⟩ : ∃ D, D = w.heap.size := ⟨_, rfl⟩
  obtain ⟨l, hl⟩ : ∃ l, l = w.heap.size + 1 := ⟨_, rfl⟩
  obtain ⟨W1, hW1⟩ : ∃ W1, (w.alloc (.deferred (some []))).alloc (.loop (rec .ready none)) = W1 := ⟨_, rfl⟩
  -- what lies in W1
  have hst1 : St C.w0 C.X ((l, .loop (rec .ready none)) :: (D, .deferred (some [])) :: (HI ++ (HJ s0 ++ HR))) W1 := by
    have h1 := (St.new (w0 := C.w0) (X := C.X) ⟨hs.fr, hpk⟩ (.deferred (some []))).new (.loop (rec .ready none))
    rw [← hW1, hl, hD]; simpa using h1
  -- the caller's rounds as the iterator sees them
  let HJ' : σ × Option Code → Mem := fun s => (l, .loop (rec (if s.2.isNone then .ready else .done) s.2)) :: (D, .deferred (some [])) :: HJ s.1
  have hHp1 : Hp (HI ++ (HJ' (s0, none) ++ HC)) W1 := by
    refine (hst1.hp.sub (H' := (l, .loop (rec .ready none)) :: (D, .deferred (some [])) :: (HI ++ (HJ s0 ++ HC))) ?_).perm ?_
    · exact List.Sublist.cons_cons _ (List.Sublist.cons_cons _ (List.Sublist.append_left (List.Sublist.append_left hC _) _))
    · show ((([(l, .loop (rec .ready none)), (D, .deferred (some []))] : Mem) ++ HI) ++ (HJ s0 ++ HC)).Perm (HI ++ (([(l, .loop (rec .ready none)), (D, .deferred (some []))] : Mem) ++ (HJ s0 ++ HC)))
      rw [← List.append_assoc HI]
      exact List.Perm.append_right _ List.perm_append_comm
  have hlW1 : l < W1.heap.size := hst1.hp.lt (e := (l, .loop (rec .ready none))) (by simp)
  have hDW1 : D < W1.heap.size := hst1.hp.lt (e := (D, .deferred (some []))) (by simp)
  have hCl : C.w0.heap.size ≤ l := by have := hs.fr.size; omega
  have hCD : C.w0.heap.size ≤ D := by have := hs.fr.size; omega
  have hX1 : ∀ e ∈ HI ++ HJ' (s0, none), C.w0.heap.size ≤ e.1 ∨ e.1 ∈ C.X := by
    intro e he
    simp only [HJ', List.mem_append, List.mem_cons] at he
    rcases he with he | rfl | rfl | he
    · exact hw e (by simp [he])
    · exact .inl hCl
    · exact .inl hCD
    · exact hw e (by simp [he])
  have hne1 := List.pairwise_cons.1 hst1.hp.ne
  have hne2 := List.pairwise_cons.1 hne1.2
  have hne3 := List.pairwise_append.1 hne2.2
  have hne4 := List.pairwise_append.1 hne3.2.1
  have hHR1 : Hp HR W1 := hst1.hp.sub (by
    refine List.Sublist.cons _ (List.Sublist.cons _ ?_)
    rw [← List.append_assoc]; exact List.sublist_append_right _ _)
  have hHRX : ∀ e ∈ HR, e.1 ∉ keys (HI ++ HJ' (s0, none)) := by
    intro e he hk'
    obtain ⟨f, hf, hfe⟩ := mem_keys.1 hk'
    simp only [HJ', List.mem_append, List.mem_cons] at hf
    rcases hf with hf | rfl | rfl | hf
    · exact hne3.2.2 f hf e (by simp [he]) hfe
    · exact hne1.1 e (by simp [he]) hfe
    · exact hne2.1 e (by simp [he]) hfe
    · exact hne4.2.2 f hf e he hfe
  have hHRlt : ∀ e ∈ HR, e.1 < W1.heap.size := fun e he => hHR1.lt he
  have hkeys0 : ∀ e ∈ HJ s0, e.1 ∈ keys (HI ++ HJ' (s0, none)) := fun e he => mem_keys.2 ⟨e, by simp [HJ', he], rfl⟩
  refine ⟨l, [{ target := .collected D, args := #[] }], W1, { target := .fn (.func gf) lb.toArray, args := #[.func (.yield l) #[] #[]] }, W1, gf, (.func (.yield l) #[] #[] :: lb).toArray, W1, ?_, ?_, ?_, ?_, ?_, ?_⟩
  · rw [← hW1, hrec, hl, hD]; exact run_enterLoop_outer _ _ _ _ _
  · simp only [resolve, hr.eval hg]
    simp [go_sem]
  · intro f' _; trivial
  · simp only [invoke]
    have : (#[Value.func (Fn.yield l) #[] #[]] ++ lb.toArray) = (.func (.yield l) #[] #[] :: lb).toArray := by apply Array.toList_inj.1; simp
    rw [this]; exact hen _ _
  · intro h; simp [Fw] at h
  let G' : List α → σ × Option Code → Prop := fun pre s => s.2 = none ∧ G pre s.1 ∧ ∀ e ∈ HJ s.1, e.1 ∈ keys (HJ s0) ∨ W1.heap.size ≤ e.1
  let S' : List α → σ × Option Code → Prop := fun pre s => (∃ c, s.2 = some c ∧ S c pre s.1) ∧ ∀ e ∈ HJ s.1, e.1 ∈ keys (HJ s0) ∨ W1.heap.size ≤ e.1
  have hcall := it (σ × Option Code) l HJ' G' S' W1 (s0, none) ⟨rfl, h0, fun e he => .inl (mem_keys.2 ⟨e, he, rfl⟩)⟩ hHp1 ?_
  · refine (CallsIn.mono (F := Fw none) (n := 0) (callsIn_wide.2 hcall) ?_)
    rintro e W2 ⟨v, H1, rfl, ⟨⟨s', st⟩, HI', rfl, hcase⟩, hfr2, hHp2, hnew2⟩
    have hl2 : W2.heap[l]? = some (.loop (rec (if st.isNone then .ready else .done) st)) := hHp2.at_ (l, _) (by simp [HJ'])
    have hend := run_endLoop (P := P) hl2 (by rw [hrec]; cases st <;> simp)
    have hHR2 : Hp HR W2 := hHR1.stay hfr2 hHRX
    have hdis2 : ∀ f ∈ HI' ++ HJ' (s', st), ∀ e ∈ HR, f.1 ≠ e.1 := by
      intro f hf e he hfe
      rcases hnew2 f hf with h' | h'
      · exact hHRX e he (hfe ▸ h')
      · have := hHRlt e he; omega
    have hall2 : Hp ((HI' ++ HJ' (s', st)) ++ HR) W2 := hHp2.append hHR2 hdis2
    have hfr02 : Fr C.w0 C.X W2 := hst1.fr.trans hfr2 (fun y hy => by
      obtain ⟨e, he, rfl⟩ := mem_keys.1 hy
      exact (hX1 e he).symm)
    have hperm : ((HI' ++ HJ' (s', st)) ++ HR).Perm ((l, .loop (rec (if st.isNone then .ready else .done) st)) :: (HJ s' ++ (HI' ++ ((D, .deferred (some [])) :: HR)))) := by
      show ((HI' ++ ((l, .loop (rec (if st.isNone then .ready else .done) st)) :: (D, .deferred (some [])) :: HJ s')) ++ HR).Perm _
      refine List.Perm.trans (List.Perm.append_right HR List.perm_middle) ?_
      simp only [List.cons_append]
      refine List.Perm.cons _ ?_
      refine List.Perm.trans (List.Perm.append_right HR (List.perm_append_comm)) ?_
      simp only [List.cons_append, List.append_assoc]
      refine List.Perm.trans ?_ (List.Perm.append_left (HJ s') List.perm_middle.symm)
      exact List.perm_middle.symm
    have hst3 : ∀ o', St C.w0 C.X (HJ s' ++ (HI' ++ ((D, .deferred (some [])) :: HR))) (W2.putObj l o') := fun o' =>
      ⟨hfr02.putObj l o' (.inr hCl), ((hall2.perm hperm).putObj (o' := o')).sub (List.sublist_cons_self _ _)⟩
    have hrep3 : Rep C.N ({ target := .collected D, args := #[] } :: C.ds) E { a with defers := [{ target := .collected D, args := #[] }] ++ a.defers } := ⟨hr.size, by simp [hr.defers], hr.get⟩
    refine ⟨_, _, hend, ?_⟩
    rcases hcase with ⟨⟨hst, hG, _⟩, hF⟩ | ⟨pre, hpre, ⟨⟨c, hst, hS⟩, _⟩, hF⟩
    · simp only at hst
      subst hst
      rw [show (rec (if Option.isNone (none : Option Code) then .ready else .done) none).pending = none from by rw [hrec]]
      exact hdone D HI' s' hCD hG hF _ _ hrep3 (hst3 _)
    · simp only at hst
      subst hst
      rw [show (rec (if Option.isNone (some c) then .ready else .done) (some c)).pending = some c from by rw [hrec]]
      exact hstop D HI' c pre s' hCD hpre hS hF _ _ hrep3 (hst3 _)
  · -- ONE ROUND
    rintro pre x ⟨s, st⟩ W ⟨hst, hG, hsk⟩ hpre hfrW hHpW
    simp only at hst hG hsk
    subst hst
    have hlW : W.heap[l]? = some (.loop (rec .ready none)) := hHpW.at_ (l, _) (by simp [HJ'])
    have hy := run_yield (P := P) (args := (encs x).toArray) hlW (by rw [hrec]; simp [hps])
    rw [hrec] at hy
    refine ⟨fn, _, assign, body, hy, roundIn_of_wpIn hfn ?_⟩
    have hHRW : Hp HR W := hHR1.stay hfrW hHRX
    have hfr0W : Fr C.w0 C.X W := hst1.fr.trans hfrW (fun y hy => by
      obtain ⟨e, he, rfl⟩ := mem_keys.1 hy
      exact (hX1 e he).symm)
    have hdisR : ∀ f ∈ HJ' (s, none), ∀ e ∈ HR, f.1 ≠ e.1 := by
      intro f hf e he hfe
      simp only [HJ', List.mem_cons] at hf
      rcases hf with rfl | rfl | hf
      · exact hne1.1 e (by simp [he]) hfe
      · exact hne2.1 e (by simp [he]) hfe
      · rcases hsk f hf with h' | h'
        · obtain ⟨f', hf', hk'⟩ := mem_keys.1 h'
          exact hne4.2.2 f' hf' e he (hk'.trans hfe)
        · have := hHRlt e he; omega
    have hallW : Hp (HJ' (s, none) ++ HR) W := hHpW.append hHRW hdisR
    have hpermR : ∀ (o : Obj), ((l, o) :: (D, .deferred (some [])) :: (HJ s ++ HR)).Perm (HJ s ++ (HR ++ [(l, o), (D, .deferred (some []))])) := fun o => by
      rw [← List.append_assoc]
      exact List.perm_append_comm (l₁ := ([(l, o), (D, .deferred (some []))] : Mem))
    have hstW : St W (l :: keys (HJ s)) (HJ s ++ (HR ++ [(l, .loop (rec .ready none)), (D, .deferred (some []))])) W := ⟨Fr.refl _ _, hallW.perm (hpermR _)⟩
    have hrepW := rep_params pl (encs x) E { tmps := a.tmps, defers := [] } ⟨hr.size, rfl, hr.get⟩ (fun t ht => by
      have := List.all_eq_true.1 hpl t ht; simpa using this)
    have hfold : ((pl.toArray.zip (encs x).toArray).foldl (fun tmps (x : Nat × Value) => tmps.setIfInBounds x.1 x.2) a.tmps) = (pl.zip (encs x)).foldl (fun t (p, v) => t.setIfInBounds p v) a.tmps := by
      rw [← Array.foldl_toList]; simp
    have hasg := hassign W l pre x s _ hfr0W hG hpre _ W hrepW hstW
    simp only at hy
    rw [show ((pl.toArray.zip (encs x).toArray).foldl (fun tmps (x : Nat × Value) => match x with | (t, a) => tmps.setIfInBounds t a) a.tmps) = (pl.zip (encs x)).foldl (fun t (p, v) => t.setIfInBounds p v) a.tmps from hfold]
    refine wpIn_mono (F := Fw (some l)) hasg ?_
    intro e a1 w1 q
    cases e with
    | normal =>
      obtain ⟨t, hA, hrep1, hst1'⟩ := q
      have hl1 : w1.heap[l]? = some (.loop (rec .ready none)) := hst1'.hp.at_ (l, _) (by simp)
      refine ⟨_, run_beginRound hl1 (by rw [hrec]), ?_⟩
      have hbusy : ({ rec .ready none with state := .busy } : Loop) = rec .busy none := by rw [hrec]
      rw [hbusy]
      have hperm2 : ∀ (o : Obj), (HA x t ++ (HJ s ++ (HR ++ [(l, o), (D, .deferred (some []))]))).Perm ((l, o) :: (HA x t ++ (HJ s ++ (HR ++ [(D, .deferred (some []))])))) := fun o => by
        have e1 : HA x t ++ (HJ s ++ (HR ++ [(l, o), (D, .deferred (some []))])) = (HA x t ++ (HJ s ++ HR)) ++ (l, o) :: [(D, .deferred (some []))] := by simp
        have e2 : HA x t ++ (HJ s ++ (HR ++ [(D, .deferred (some []))])) = (HA x t ++ (HJ s ++ HR)) ++ [(D, .deferred (some []))] := by simp
        rw [e1, e2]; exact List.perm_middle
      have hst2 : St W (l :: keys (HJ s)) (HA x t ++ (HJ s ++ (HR ++ [(l, .loop (rec .busy none)), (D, .deferred (some []))]))) (w1.putObj l (.loop (rec .busy none))) :=
        ⟨hst1'.fr.putObj l _ (.inl (by simp)), ((hst1'.hp.perm (hperm2 _)).putObj).perm (hperm2 _).symm⟩
      have hbd := hbody W l pre x s t _ hfr0W hG hpre hA _ _ hrep1 hst2
      refine wpIn_mono (F := Fw (some l)) hbd ?_
      have fin : ∀ (jump : Option Code) (w3 : World) (s' : σ), St W (l :: keys (HJ s)) (HJ s' ++ [(l, .loop (rec .busy none)), (D, .deferred (some []))]) w3 → (∀ e ∈ HJ s', e.1 ∈ keys (HJ s) ∨ W.heap.size ≤ e.1) →
          (Instr.endRound l jump).run P w3 = .ok (.bool jump.isNone) (w3.putObj l (.loop (rec (if jump.isNone then .ready else .done) jump))) ∧
          Fr W (keys (HJ' (s, none))) (w3.putObj l (.loop (rec (if jump.isNone then .ready else .done) jump))) ∧ Hp (HJ' (s', jump)) (w3.putObj l (.loop (rec (if jump.isNone then .ready else .done) jump))) ∧
          (∀ e ∈ HJ' (s', jump), e.1 ∈ keys (HJ' (s, none)) ∨ W.heap.size ≤ e.1) ∧ (∀ e ∈ HJ s', e.1 ∈ keys (HJ s0) ∨ W1.heap.size ≤ e.1) := by
        intro jump w3 s' hst3 hnew3
        have hl3 : w3.heap[l]? = some (.loop (rec .busy none)) := hst3.hp.at_ (l, _) (by simp)
        have hr3 := run_endRound (P := P) jump hl3
        have heq : ({ rec .busy none with state := if jump.isNone then .ready else .done, pending := jump } : Loop) = rec (if jump.isNone then .ready else .done) jump := by rw [hrec]
        rw [heq] at hr3
        have hp3 : ∀ o : Obj, (HJ s' ++ [(l, o), (D, .deferred (some []))]).Perm ((l, o) :: (D, .deferred (some [])) :: HJ s') := fun o => List.perm_append_comm (l₂ := ([(l, o), (D, .deferred (some []))] : Mem))
        refine ⟨hr3, ?_, ((hst3.hp.perm (hp3 _)).putObj), ?_, ?_⟩
        · refine (hst3.fr.putObj l _ (.inl (by simp))).mono ?_
          intro y hy
          simp only [HJ', keys_cons, List.mem_cons] at hy ⊢
          rcases hy with rfl | hy
          · exact .inl rfl
          · exact .inr (.inr hy)
        · intro e he
          simp only [HJ', List.mem_cons, keys_cons] at he ⊢
          rcases he with rfl | rfl | he
          · exact .inl (.inl rfl)
          · exact .inl (.inr (.inl rfl))
          · rcases hnew3 e he with h' | h'
            · exact .inl (.inr (.inr h'))
            · exact .inr h'
        · intro e he
          rcases hnew3 e he with h' | h'
          · obtain ⟨f, hf, hfe⟩ := mem_keys.1 h'
            rw [← hfe]; exact hsk f hf
          · exact .inr (Nat.le_trans hfrW.size h')
      intro e a3 w3 q
      cases e with
      | normal =>
        obtain ⟨s', hG', hst3, hnew3⟩ := q
        obtain ⟨hr3, hf3, hh3, hn3, hk3⟩ := fin none w3 s' hst3 hnew3
        exact ⟨_, _, hr3, _, HJ' (s', none), rfl, ⟨(s', none), rfl, .inl ⟨rfl, rfl, hG', hk3⟩⟩, hf3, hh3, hn3⟩
      | ret =>
        obtain ⟨s', hS', hst3, hnew3⟩ := q
        obtain ⟨hr3, hf3, hh3, hn3, hk3⟩ := fin (some .ret) w3 s' hst3 hnew3
        exact ⟨_, _, hr3, _, HJ' (s', some .ret), rfl, ⟨(s', some .ret), rfl, .inr ⟨rfl, ⟨_, rfl, hS'⟩, hk3⟩⟩, hf3, hh3, hn3⟩
      | exit i =>
        obtain ⟨s', hS', hst3, hnew3⟩ := q
        obtain ⟨hr3, hf3, hh3, hn3, hk3⟩ := fin (some (.exit i)) w3 s' hst3 hnew3
        exact ⟨_, _, hr3, _, HJ' (s', some (.exit i)), rfl, ⟨(s', some (.exit i)), rfl, .inr ⟨rfl, ⟨_, rfl, hS'⟩, hk3⟩⟩, hf3, hh3, hn3⟩
      | goto t =>
        obtain ⟨s', hS', hst3, hnew3⟩ := q
        obtain ⟨hr3, hf3, hh3, hn3, hk3⟩ := fin (some (.goto t)) w3 s' hst3 hnew3
        exact ⟨_, _, hr3, _, HJ' (s', some (.goto t)), rfl, ⟨(s', some (.goto t)), rfl, .inr ⟨rfl, ⟨_, rfl, hS'⟩, hk3⟩⟩, hf3, hh3, hn3⟩
      | panic c => exact q.elim
      | outgrown => exact q.elim
    | ret => exact q.elim
    | exit i => exact q.elim
    | goto t => exact q.elim
    | panic c => exact q.elim
    | outgrown => exact q.elim

end range
end Go.Mv

namespace Go.Mv
open Go Go.Proofs
section rd
variable {P : Program} {ty : TypeId} {E : Env} {L : Mem} {v : Value} {x : Operand} {T : TypeId}
/-- A field of a struct's own value. -/
theorem RD.fieldC {fs : Array Field} {fl : Field} {f : Nat} {cs : Array Value} (hS : ∀ w, (underlying T).run P w = .ok (.struct fs) w) (hf : fs[f]? = some fl) (ha : ∀ w, (isAgg fl.type).run P w = .ok false w) (hx : evalE E x = some (.agg cs)) (hv : cs[fl.offset]? = some v) : RD P (.field T x f) ty E L v := fun ρ w _ _ _ _ hρ _ => by
  simp [execOp, hρ _ _ hx, Instr.field, hS, hf, part, asAgg, ha, hv]
end rd
end Go.Mv

namespace Go.Proofs.YtcmnmigcalibdaaGreatDoor
open Go Go.Mv
def dotOk (s c : Int) : Bool := decide (0 ≤ s ∧ s < 16 ∧ 1 ≤ c ∧ c ≤ 4294967295)
theorem dotOk_iff {s c : Int} : dotOk s c = true ↔ 0 ≤ s ∧ s < 16 ∧ 1 ≤ c ∧ c ≤ 4294967295 := by simp [dotOk]
end Go.Proofs.YtcmnmigcalibdaaGreatDoor

namespace Go.Proofs.YtcmnmigcalibdaaGreatDoor
open Go Go.Mv
set_option maxRecDepth 4000
theorem elByte : ElI Tryz.prog 5 1 1 (.int .u8 0) := by unfold ElI; kernel_rfl

end Go.Proofs.YtcmnmigcalibdaaGreatDoor
