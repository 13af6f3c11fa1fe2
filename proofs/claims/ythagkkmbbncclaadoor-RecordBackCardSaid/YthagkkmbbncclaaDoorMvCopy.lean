import Derived.Test.YthagkkmbbncclaaDoorMvBytes
namespace Go.Mv
open Go

section te
variable {P : Program} {rd : Option Nat} {ops : Array Oper} {p : Pst} {q : List Nat} {C : Ctx} {L M : Mem} {k : Nat} {tr : Tr} {E : Env}
variable {d : Nat} {ty : TypeId} {ps : String} {af : Array Edge} {g : Option (Nat × Bool)}

/-- copy of elements of one cell each, out of a slice, into a block that is known. -/
theorem TE_copy {x y : Operand} {dT sT el : TypeId} {by' : Nat} {z : Value} {i b o dLen dCap sLen sCap : Nat} {ad : Addr} {cur : Array Value} {t : TypeId} {cs : List Value} (ho : ops[k]? = some ⟨some d, .call ⟨.builtin .copy, #[x, y], #[dT, sT]⟩, ty, ps, af, g⟩) (hl : ld ops q k = true) (hg : GOK ops E g) (hd : Nat.blt d C.N = true)
    (hT : P.underlying dT = some (.slice el)) (hI : ElI P el 1 by' z) (hx : evalE E x = some (.slice (some ⟨b, o, none⟩) dLen dCap)) (hy : evalE E y = some (.slice (some ad) sLen sCap)) (hn : cs.length = Nat.min sLen dLen)
    (hsrc : ∀ w, Hp (M ++ L) w → ∀ j u, cs[j]? = some u → w.cell? (ad.add j) = some u) (hi : M[i]? = some (b, .cells cur t (0, 0))) (hfit : o + cs.length ≤ cur.size) (h1 : ∀ v ∈ cs, v.oneCell' = true) (hw : C.w0.heap.size ≤ b ∨ b ∈ C.X)
    (h : TE P rd ops p q C L tr ((d, .int .i64 cs.length) :: E) (M.set i (b, .cells (putL cur o cs) t (0, 0)))) : TE P rd ops p q C L (.op k tr) E M :=
  TE_loud ho hl hg rfl fun a w hr hs => by
    obtain ⟨i0, hi0, hz0, hz1, hz2⟩ := info_parts hI
    have hb := hs.hp.get (i := i) (b := b) (o := .cells cur t (0, 0)) (by
      obtain ⟨hlt, _⟩ := List.getElem?_eq_some_iff.1 hi
      rw [List.getElem?_append_left hlt]; exact hi)
    have hload := run_loadCells_list (P := P) w ad cs (hsrc w hs.hp)
    obtain ⟨w', hrun, hb', hk, e1, e2, e3, e4⟩ := run_storeCells_at (P := P) cs cur o 0 w hb (by omega) h1
    have hrun' : (execOp a.eval ⟨some d, .call ⟨.builtin .copy, #[x, y], #[dT, sT]⟩, ty, ps, af, g⟩).run P w = .ok (.value (.int .i64 cs.length)) w' := by
      simp only [execOp, resolve]
      simp [invoke, builtin, hr.eval hx, hr.eval hy, Builtin.copy_, run_underlying hT, Builtin.lenOf, Builtin.firstCells, sizeOf, typeInfo, hi0, hz1, ← hn, hload, hrun, goInt]
    rw [hrun']
    have hst := hs.upd hi hb' hk e1 e2 e3 e4 hw
    exact ⟨hst.hp.right, h _ _ (hr.put (by simpa using hd) _) hst⟩
end te

/-- The end of a function whose result lies in a block. -/
theorem pn_doneCell {P : Program} {fn : Func} {E : Env} {H : Mem} {post : Value → Mem → Prop} {X : List Nat} {N : Nat} {w : World} {tb : Nat} {T : TypeId} {H1 : Mem} {i b n : Nat} {cs : Array Value} {t : TypeId} {fz : Nat × Nat} {v : Value}
    (hl : fn.results = #[.cell tb T]) (hE : E.get tb = some (.pointer (some ⟨b, 0, none⟩))) (hi : H[i]? = some (b, .cells cs t fz)) (ha : ∀ w, (isAgg T).run P w = .ok true w) (hz : ∀ w, (sizeOf T).run P w = .ok n w) (hn : 0 + n ≤ cs.size) (hv : Value.agg (cs.extract 0 (0 + n)) = v)
    (hp : post v H1) (hH : H1.Sublist H) (hnew : ∀ e ∈ H1, e.1 ∈ X ∨ w.heap.size ≤ e.1) :
    PN ⟨N, [], w, X⟩ (retP P fn (Ret w X post)) E H := fun a w' hr hs => by
  unfold retP
  rw [hr.defers]
  have hc := run_loadCells_agg (P := P) (w := w') (b := b) (off := 0) (n := n) (cs := cs) (fun j _ => cell_of hs.hp (off := 0 + j) hi) hn
  have ht := hr.get tb _ hE
  have ht' : a.tmps.getD tb undef = .pointer (some ⟨b, 0, none⟩) := by simp [Array.getD_eq_getD_getElem?, ht]
  have hres : (results fn a.tmps).run P w' = .ok v w' := by
    subst hv
    unfold results
    rw [hl]
    simp only [Nat.zero_add] at hc ⊢
    simp [ht, asAddr, loadVar, ha, hz, hc]
  refine ⟨v, hres, v, H1, rfl, hp, hs.fr, hs.hp.sub hH, hnew⟩
theorem src_cells {H : Mem} {i b : Nat} {cs : List Value} {t : TypeId} {fz : Nat × Nat} (hi : H[i]? = some (b, .cells cs.toArray t fz)) : ∀ w, Hp H w → ∀ j u, cs[j]? = some u → w.cell? ((⟨b, 0, none⟩ : Addr).add j) = some u := fun w hw j u hj => by
  have hadd : (⟨b, 0, none⟩ : Addr).add j = ⟨b, j, none⟩ := by
    unfold Addr.add; split
    · rename_i h; simp
    · simp
  rw [hadd, cell_of hw (off := j) hi]
  simpa using hj
end Go.Mv
