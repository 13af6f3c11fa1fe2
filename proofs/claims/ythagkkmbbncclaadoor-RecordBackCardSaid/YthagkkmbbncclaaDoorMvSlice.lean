import Derived.Test.YthagkkmbbncclaaDoorMvIter
import Derived.Deep.AppendLies
namespace Go.Mv
open Go

def bcell (x : UInt8) : Value := .int .u8 x.toNat
/-- A list of bytes as cells. -/
def bcells (l : List UInt8) : List Value := l.map bcell
@[simp] theorem length_bcells (l : List UInt8) : (bcells l).length = l.length := by simp [bcells]
@[simp] theorem bcells_append (a b : List UInt8) : bcells (a ++ b) = bcells a ++ bcells b := by simp [bcells]
theorem bcells_one (l : List UInt8) : ∀ v ∈ bcells l, v.oneCell' = true := by
  intro v hv
  obtain ⟨x, _, rfl⟩ := List.mem_map.1 hv
  rfl
theorem bcells_get (l : List UInt8) (i : Nat) : (bcells l)[i]? = (l[i]?).map bcell := by simp [bcells]

/-- A block of the call's own, or one that was handed in to be written, is put in the place of another. -/
theorem St.repl {w0 w w' : World} {X : List Nat} {M L : Mem} {i b b' : Nat} {o o' : Obj} (h : St w0 X (M ++ L) w) (hi : M[i]? = some (b, o)) (hb : w'.heap[b']? = some o') (hbb : b' = b ∨ b' = w.heap.size) (hk : ∀ k, k < w.heap.size → k ≠ b → w'.heap[k]? = w.heap[k]?)
    (e1 : w'.os = w.os) (e2 : w'.tape = w.tape) (e3 : w'.output = w.output) (e4 : w.heap.size ≤ w'.heap.size) (hw : w0.heap.size ≤ b ∨ b ∈ X) : St w0 X (M.set i (b', o') ++ L) w' := by
  obtain ⟨hlt, hget⟩ := List.getElem?_eq_some_iff.1 hi
  have hsplit : M = M.take i ++ (b, o) :: M.drop (i + 1) := by rw [← hget, List.getElem_cons_drop hlt, List.take_append_drop]
  have hset : M.set i (b', o') = M.take i ++ (b', o') :: M.drop (i + 1) := by rw [List.set_eq_take_append_cons_drop, if_pos hlt]
  have hp : Hp ((b, o) :: (M.take i ++ M.drop (i + 1) ++ L)) w := by
    refine h.hp.perm ?_
    rw [hsplit]
    rw [← hsplit]
    have e2 : M ++ L = M.take i ++ (b, o) :: (M.drop (i + 1) ++ L) := by
      conv => lhs; rw [hsplit]
      simp
    rw [e2, List.append_assoc]
    exact List.perm_middle
  have hne := List.pairwise_cons.1 hp.ne
  have hrest : Hp (M.take i ++ M.drop (i + 1) ++ L) w' := ⟨fun e he => (hk e.1 (hp.lt (by simp only [List.mem_cons]; exact .inr he)) (fun heq => hne.1 e he heq.symm)).trans (hp.at_ e (by simp only [List.mem_cons]; exact .inr he)), hne.2⟩
  have hnew : Hp ((b', o') :: (M.take i ++ M.drop (i + 1) ++ L)) w' := by
    refine ⟨fun e he => ?_, List.pairwise_cons.2 ⟨fun e he => ?_, hne.2⟩⟩
    · rcases List.mem_cons.1 he with rfl | he
      · exact hb
      · exact hrest.at_ e he
    · rcases hbb with rfl | rfl
      · exact hne.1 e he
      · have := hp.lt (e := e) (by simp only [List.mem_cons]; exact .inr he)
        simp only [ne_eq]; omega
  refine ⟨⟨e1.trans h.fr.os, e2.trans h.fr.tape, e3.trans h.fr.output, Nat.le_trans h.fr.size e4, fun k hk' hX => ?_⟩, ?_⟩
  · by_cases hkb : k = b
    · subst hkb
      rcases hw with hw | hw
      · omega
      · exact absurd hw hX
    · exact (hk k (Nat.lt_of_lt_of_le hk' h.fr.size) hkb).trans (h.fr.block k hk' hX)
  · refine hnew.perm ?_
    rw [hset]
    simp only [List.append_assoc, List.cons_append]
    exact List.perm_middle.symm

/-- What an element's type is. -/
def ElI (P : Program) (el : TypeId) (sz by' : Nat) (z : Value) : Prop := (P.info? el).map (fun i => (i.zero, i.size, i.bytes)) = some (some z, sz, by')

/-- A slice that can be read. -/
def Src (C : Ctx) (H : Mem) (xv : Value) (m : Nat) (ys : List Value) : Prop :=
  ∃ ad c, xv = .slice (some ad) m c ∧ ∀ w, St C.w0 C.X H w → ∀ j u, ys[j]? = some u → w.cell? (ad.add j) = some u

theorem Src.blk {C : Ctx} {H : Mem} {i b m c : Nat} {ys tl : List Value} {t : TypeId} {fz : Nat × Nat} (hi : H[i]? = some (b, .cells (ys ++ tl).toArray t fz)) : Src C H (.slice (some ⟨b, 0, none⟩) m c) m ys :=
  ⟨_, c, rfl, fun w hs j u hj => by
    have hadd : (⟨b, 0, none⟩ : Addr).add j = ⟨b, j, none⟩ := by
      unfold Addr.add; split
      · rename_i h; simp
      · simp
    rw [hadd]
    simp only [World.cell?, hs.hp.get hi]
    obtain ⟨hlt, _⟩ := List.getElem?_eq_some_iff.1 hj
    simp [List.getElem?_append_left hlt, hj]⟩

section te
variable {P : Program} {rd : Option Nat} {ops : Array Oper} {p : Pst} {q : List Nat} {C : Ctx} {L M : Mem} {k : Nat} {tr : Tr} {E : Env}
variable {d : Nat} {ty : TypeId} {ps : String} {af : Array Edge} {g : Option (Nat × Bool)}

theorem run_append_op {s x : Operand} {sT : TypeId} {sv xv : Value} {ρ : Operand → Value} {dst : Option Tmp} {w : World} (hs : ρ s = sv) (hx : ρ x = xv) {v : Value} {w' : World} (h : (Builtin.append_ #[sT, sT] ty #[sv, xv]).run P w = .ok v w') :
    (execOp ρ ⟨dst, .call ⟨.builtin .append, #[s, x], #[sT, sT]⟩, ty, ps, af, g⟩).run P w = .ok (.value v) w' := by
  simp only [execOp, resolve]
  simp [invoke, builtin, hs, hx, h]

/-- append onto a slice that is known whole; something is appended. -/
theorem TE_appendS {s x : Operand} {sT el : TypeId} {sz by' : Nat} {z xv : Value} {i b n cap mm : Nat} {xs tl ys : List Value} (ho : ops[k]? = some ⟨some d, .call ⟨.builtin .append, #[s, x], #[sT, sT]⟩, ty, ps, af, g⟩) (hl : ld ops q k = true) (hg : GOK ops E g) (hd : Nat.blt d C.N = true)
    (hT : P.underlying sT = some (.slice el)) (hI : ElI P el sz by' z) (hzs : Nat.beq z.cells.size sz = true) (hsz : Nat.blt 0 sz = true)
    (hs : evalE E s = some (.slice (some ⟨b, 0, none⟩) n cap)) (hx : evalE E x = some xv) (hi : M[i]? = some (b, .cells (xs ++ tl).toArray el (0, 0)))
    (hxs : xs.length = n * sz) (hcap : (xs ++ tl).length = cap * sz) (hnc : n ≤ cap) (hcm : cap ≤ maxLen) (hsrc : Src C (M ++ L) xv mm ys) (hys : ys.length = mm * sz) (h1 : ∀ u ∈ ys, u.oneCell' = true) (hm : 0 < mm) (h63 : n + mm ≤ maxLen) (hby : (n + mm) * by' ≤ 140737488355328)
    (hw : C.w0.heap.size ≤ b ∨ b ∈ C.X)
    (h : ∀ b' cap' tl', n + mm ≤ cap' → cap' ≤ maxLen → (xs ++ ys ++ tl').length = cap' * sz → (b' = b ∨ C.w0.heap.size ≤ b') →
      TE P rd ops p q C L tr ((d, .slice (some ⟨b', 0, none⟩) (n + mm) cap') :: E) (M.set i (b', .cells (xs ++ ys ++ tl').toArray el (0, 0)))) : TE P rd ops p q C L (.op k tr) E M :=
  TE_loud ho hl hg rfl fun a w hr hst => by
    obtain ⟨i0, hi0, hz0, hz1, hz2⟩ := info_parts hI
    obtain ⟨ad, c, rfl, hread⟩ := hsrc
    have hb := hst.hp.get (i := i) (b := b) (o := .cells (xs ++ tl).toArray el (0, 0)) (by
      obtain ⟨hlt, _⟩ := List.getElem?_eq_some_iff.1 hi
      rw [List.getElem?_append_left hlt]; exact hi)
    have hown : w.ownsRow 0 el sz (.slice (some ⟨b, 0, none⟩) n cap) n xs := ⟨hxs, .inr ⟨b, cap, _, rfl, Nat.zero_le _, hb, hnc, hcm, by simpa using hcap, by simp [← hxs]⟩⟩
    obtain ⟨b', cap', w', hrun, hown', hgrow, hat, hlt⟩ := run_append_lies (P := P) (w := w) sT ty 0 el i0 z sz by' hT hi0 hz0 hz1 hz2 (by simpa using hzs) (by simpa using hsz) _ n xs hown ad mm c ys hys (hread w hst) h1 hm h63 hby (Nat.zero_le _) w.heap.size rfl
    obtain ⟨hlen', hcase⟩ := hown'
    obtain ⟨g', c', cur, hv', _, hb2, hnc', hcm', hcs, htk⟩ := hcase.resolve_left (by rintro ⟨h', _⟩; simp at h')
    simp only [Value.slice.injEq, Option.some.injEq, Addr.mk.injEq, and_true, true_and] at hv'
    obtain ⟨rfl, rfl⟩ := hv'
    have hcur : cur = (xs ++ ys ++ cur.toList.drop ((n + mm) * sz)).toArray := by
      apply Array.toList_inj.1; rw [List.toList_toArray, ← htk, List.take_append_drop]
    rw [hcur] at hb2
    have hbb : b' = b ∨ b' = w.heap.size := by
      rcases hat with h' | h'
      · left; simpa [Value.ownBlock] using h'.symm
      · exact .inr h'
    rw [run_append_op (hr.eval hs) (hr.eval hx) hrun]
    have hst' := hst.repl hi hb2 hbb (fun k hk hne => hgrow.block k hk (by simp [Value.ownBlock, hne])) hgrow.os hgrow.tape hgrow.output hgrow.size hw
    have hwr : b' = b ∨ C.w0.heap.size ≤ b' := by
      rcases hbb with rfl | rfl
      · exact .inl rfl
      · exact .inr hst.fr.size
    exact ⟨hst'.hp.right, h b' cap' _ hnc' hcm' (by rw [← hcs]; have h9 := congrArg Array.size hcur; rw [List.size_toArray] at h9; exact h9.symm) hwr _ _ (hr.put (by simpa using hd) _) hst'⟩

/-- append onto nil; something is appended. -/
theorem TE_appendN {s x : Operand} {sT el : TypeId} {sz by' : Nat} {z xv : Value} {mm : Nat} {ys : List Value} (ho : ops[k]? = some ⟨some d, .call ⟨.builtin .append, #[s, x], #[sT, sT]⟩, ty, ps, af, g⟩) (hl : ld ops q k = true) (hg : GOK ops E g) (hd : Nat.blt d C.N = true)
    (hT : P.underlying sT = some (.slice el)) (hI : ElI P el sz by' z) (hzs : Nat.beq z.cells.size sz = true) (hsz : Nat.blt 0 sz = true)
    (hs : evalE E s = some (.slice none 0 0)) (hx : evalE E x = some xv)
    (hsrc : Src C (M ++ L) xv mm ys) (hys : ys.length = mm * sz) (h1 : ∀ u ∈ ys, u.oneCell' = true) (hm : 0 < mm) (h63 : mm ≤ maxLen) (hby : mm * by' ≤ 140737488355328)
    (h : ∀ b' cap' tl', mm ≤ cap' → cap' ≤ maxLen → (ys ++ tl').length = cap' * sz → C.w0.heap.size ≤ b' →
      TE P rd ops p q C L tr ((d, .slice (some ⟨b', 0, none⟩) mm cap') :: E) ((b', .cells (ys ++ tl').toArray el (0, 0)) :: M)) : TE P rd ops p q C L (.op k tr) E M :=
  TE_loud ho hl hg rfl fun a w hr hst => by
    obtain ⟨i0, hi0, hz0, hz1, hz2⟩ := info_parts hI
    obtain ⟨ad, c, rfl, hread⟩ := hsrc
    have hown : w.ownsRow 0 el sz (.slice none 0 0) 0 [] := ⟨by simp, .inl ⟨rfl, rfl⟩⟩
    obtain ⟨b', cap', w', hrun, hown', hgrow, hat, hlt⟩ := run_append_lies (P := P) (w := w) sT ty 0 el i0 z sz by' hT hi0 hz0 hz1 hz2 (by simpa using hzs) (by simpa using hsz) _ 0 [] hown ad mm c ys hys (hread w hst) h1 hm (by simpa using h63) (by simpa using hby) (Nat.zero_le _) w.heap.size rfl
    obtain ⟨hlen', hcase⟩ := hown'
    obtain ⟨g', c', cur, hv', _, hb2, hnc', hcm', hcs, htk⟩ := hcase.resolve_left (by rintro ⟨h', _⟩; simp at h')
    simp only [Value.slice.injEq, Option.some.injEq, Addr.mk.injEq, and_true, true_and] at hv'
    obtain ⟨rfl, rfl⟩ := hv'
    have hcur : cur = (ys ++ cur.toList.drop ((0 + mm) * sz)).toArray := by
      apply Array.toList_inj.1; rw [List.nil_append] at htk; rw [List.toList_toArray, ← htk, List.take_append_drop]
    rw [hcur] at hb2
    have hbb : b' = w.heap.size := by
      rcases hat with h' | h'
      · simp [Value.ownBlock] at h'
      · exact h'
    rw [run_append_op (hr.eval hs) (hr.eval hx) hrun]
    have hst' : St C.w0 C.X ((b', .cells (ys ++ cur.toList.drop ((0 + mm) * sz)).toArray el (0, 0)) :: (M ++ L)) w' := by
      refine ⟨⟨hgrow.os.trans hst.fr.os, hgrow.tape.trans hst.fr.tape, hgrow.output.trans hst.fr.output, Nat.le_trans hst.fr.size hgrow.size, fun k hk hX => (hgrow.block k (Nat.lt_of_lt_of_le hk hst.fr.size) (by simp [Value.ownBlock])).trans (hst.fr.block k hk hX)⟩, fun e he => ?_, List.pairwise_cons.2 ⟨fun e he => ?_, hst.hp.ne⟩⟩
      · rcases List.mem_cons.1 he with rfl | he
        · exact hb2
        · exact (hgrow.block e.1 (hst.hp.lt he) (by simp [Value.ownBlock])).trans (hst.hp.at_ e he)
      · have := hst.hp.lt he
        simp only [ne_eq]; omega
    have hn0 : (0 + mm) = mm := by omega
    rw [hn0] at hnc' hst' ⊢
    exact ⟨hst'.hp.sub (List.sublist_append_right ((b', _) :: M) L), h b' cap' _ hnc' hcm' (by rw [← hcs]; have h9 := congrArg Array.size hcur; rw [hn0] at h9; exact h9.symm) (hbb ▸ hst.fr.size) _ _ (hr.put (by simpa using hd) _) hst'⟩
end te
end Go.Mv
