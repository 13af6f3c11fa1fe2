import Derived.Test.YtjdjlcmajeikcaaMvI
import Derived.ProofKit
import Derived.OpenShut
import Derived.Deep.DeepHandedRow
import Derived.WideKeyArgs
import Derived.Lib.LaidTab
import Derived.SevenTiedAt
import Derived.ChangeSlices
namespace Go.Proofs.Ytjdjlcmajeikcaa
open Go Go.Mv Go.ChangeShapes
set_option maxRecDepth 100000
def intAt (cs : Array Value) (i : Nat) : Int := match cs[i]? with | some (.int _ n) => n | _ => 0
theorem has_u8 {n : Int} (h : IntKind.u8.has n) : 0 ≤ n ∧ n ≤ 255 := by simpa [IntKind.has, IntKind.min, IntKind.max, IntKind.signed, IntKind.bits] using h
section trod
variable {H : Type} {enc : TypeId × Value → H} {P : Program} {w : World} {base : Nat} {spare : Nat → Bool} {held : Bool}
theorem mapM_some {α β : Type} {f : α → Option β} : ∀ {l : List α} {r : List β}, l.mapM f = some r → ∀ a ∈ l, ∃ b, f a = some b
  | [], _, _, a, ha => by simp at ha
  | x :: l, r, h, a, ha => by
    simp only [List.mapM_cons, Option.bind_eq_bind, Option.bind_eq_some_iff, Option.pure_def, Option.some.injEq] at h
    obtain ⟨y, hy, ys, hys, _⟩ := h
    rcases List.mem_cons.1 ha with rfl | ha
    · exact ⟨y, hy⟩
    · exact mapM_some hys a ha
theorem mapM_at {β : Type} {f : Nat → Option β} : ∀ {n : Nat} {r : List β}, (List.range n).mapM f = some r → ∀ i, i < n → f i = r[i]?
  | n, r, h, i, hi => by
    have h2 : ∀ {l : List Nat} {r : List β}, l.mapM f = some r → ∀ (i : Nat) (a : Nat), l[i]? = some a → f a = r[i]? := by
      intro l
      induction l with
      | nil => intro r _ i a ha; simp at ha
      | cons x l ih =>
        intro r h i a ha
        simp only [List.mapM_cons, Option.bind_eq_bind, Option.bind_eq_some_iff, Option.pure_def, Option.some.injEq] at h
        obtain ⟨y, hy, ys, hys, rfl⟩ := h
        cases i with
        | zero => simp only [List.getElem?_cons_zero, Option.some.injEq] at ha ⊢; rw [← ha]; exact hy
        | succ i => rw [List.getElem?_cons_succ] at ha ⊢; exact ih hys i a ha
    exact h2 h i i (by simp [hi])
/-- A struct's field. -/
theorem trod_field {n : Nat} {t : TypeId} {cs : List Value} {x : DataW H × List MemPlace} {fs : Array Field} (ht : P.underlying t = some (.struct fs)) (h : DataW.trod enc P w base spare held n t cs = some x) :
    cs.length = P.cellsOf t ∧ ∀ (j : Nat) (f : Field), fs[j]? = some f → ∃ m y, DataW.trod enc P w base spare held m f.type ((cs.drop f.offset).take (P.cellsOf f.type)) = some y := by
  cases n with
  | zero => simp [DataW.trod] at h
  | succ n =>
    unfold DataW.trod at h
    rw [ht] at h
    simp only at h
    split at h
    · rename_i hl
      cases hm : (fs.toList.mapM fun f => DataW.trod enc P w base spare held n f.type ((cs.drop f.offset).take (P.cellsOf f.type))) with
      | none => rw [hm] at h; simp at h
      | some xs => exact ⟨hl, fun j f hf => ⟨n, mapM_some hm f (by simpa using Array.mem_of_getElem? hf)⟩⟩
    · cases h
theorem trod_elem {n len : Nat} {t e : TypeId} {cs : List Value} {x : DataW H × List MemPlace} (ht : P.underlying t = some (.array len e)) (h : DataW.trod enc P w base spare held n t cs = some x) :
    cs.length = P.cellsOf t ∧ ∀ j, j < len → ∃ m y, DataW.trod enc P w base spare held m e ((cs.drop (j * P.cellsOf e)).take (P.cellsOf e)) = some y := by
  cases n with
  | zero => simp [DataW.trod] at h
  | succ n =>
    unfold DataW.trod at h
    rw [ht] at h
    simp only at h
    split at h
    · rename_i hl
      cases hm : ((List.range len).mapM fun i => DataW.trod enc P w base spare held n e ((cs.drop (i * P.cellsOf e)).take (P.cellsOf e))) with
      | none => rw [hm] at h; simp at h
      | some xs => exact ⟨hl, fun j hj => ⟨n, mapM_some hm j (by simpa using hj)⟩⟩
    · cases h
theorem wf_has {k : IntKind} {n : Int} (h : (Lit.int k n).wf = true) : k.has n := by simpa [Lit.wf, IntKind.has] using h
theorem trod_ints {n len : Nat} {t e : TypeId} {k : IntKind} {cs : List Value} {x : DataW H × List MemPlace} (ht : P.underlying t = some (.array len e)) (he : P.underlying e = some (.int k)) (hc : P.cellsOf e = 1) (h : DataW.trod enc P w base spare held n t cs = some x) :
    cs.length = P.cellsOf t ∧ ∀ j, j < len → ∃ z, cs[j]? = some (.int k z) ∧ k.has z := by
  obtain ⟨hl, hj⟩ := trod_elem ht h
  refine ⟨hl, fun j hlt => ?_⟩
  obtain ⟨m, y, hy⟩ := hj j hlt
  rw [hc, Nat.mul_one] at hy
  obtain ⟨z, hz, _, hwf⟩ := DataW.trod_int he hy
  refine ⟨z, ?_, wf_has hwf⟩
  have := congrArg (fun l : List Value => l[0]?) hz
  simpa [List.getElem?_take, List.getElem?_drop] using this
theorem at0 {l : List Value} {o n : Nat} {v : Value} (h : (l.drop o).take n = [v]) : l[o]? = some v := by
  have := congrArg (fun l : List Value => l[0]?) h
  simp only [List.getElem?_cons_zero] at this
  rw [← this, List.getElem?_take, List.getElem?_drop]
  split
  · rfl
  · rename_i hn
    have : n = 0 := by omega
    subst this; simp at h
theorem atj {l : List Value} {o n j : Nat} (hj : j < n) : ((l.drop o).take n)[j]? = l[o + j]? := by rw [List.getElem?_take, if_pos hj, List.getElem?_drop]
end trod
theorem build_list {α : Type} {ok : α → Prop} {Q : Nat → α → Prop} : ∀ {n : Nat}, (∀ i, i < n → ∃ x, ok x ∧ Q i x) → ∃ l : List α, l.length = n ∧ (∀ x ∈ l, ok x) ∧ ∀ i x, l[i]? = some x → Q i x
  | 0, _ => ⟨[], rfl, by simp, by simp⟩
  | k + 1, each => by
    obtain ⟨l, h1, h2, h3⟩ := build_list (n := k) (fun i hi => each i (by omega))
    obtain ⟨x, hx, hxc⟩ := each k (by omega)
    refine ⟨l ++ [x], by simp [h1], fun y hy => ?_, fun i y hi => ?_⟩
    · rcases List.mem_append.1 hy with hy | hy
      · exact h2 y hy
      · simp only [List.mem_cons, List.not_mem_nil, or_false] at hy; subst hy; exact hx
    · by_cases hik : i < l.length
      · rw [List.getElem?_append_left hik] at hi; exact h3 i y hi
      · rw [List.getElem?_append_right (by omega)] at hi
        have h0 : i - l.length = 0 := by
          have := (List.getElem?_eq_some_iff.1 hi).1
          simp at this; omega
        rw [h0] at hi
        simp only [List.getElem?_cons_zero, Option.some.injEq] at hi
        subst hi
        have : i = k := by omega
        subst this; exact hxc
/-- Elements of several cells that come in. -/
theorem open_list {H : Type} {α : Type} {P : Program} {ec : α → List Value} {sz : Nat} {ok : α → Prop} {t e : TypeId} {enc : TypeId × Value → H} {W : World} {r : Reach} {b0 : Nat} {v : Value} {d : DataW H} {p : List MemPlace} (ht : P.underlying t = some (.slice e)) (hsz : P.cellsOf e = sz) (hs0 : 0 < sz) (hk : ∀ x, (ec x).length = sz)
    (hel : ∀ n cs x, DataW.trod enc P W 0 (fun _ => true) true n e cs = some x → ∃ a, cs = ec a ∧ ok a) (hval : Value.okWide P W r b0 t v) (h : DataW.Trod enc P W 0 (fun _ => true) true t v d p) (HZ : Mem) (hH : Hp HZ W) :
    ∃ HA l, Hp (HA ++ HZ) W ∧ Rdx sz ec (HA ++ HZ) v l ∧ (∀ x ∈ l, ok x) ∧ l.length ≤ 9223372036854775807 := by
  obtain ⟨a0, l0, c0, rfl⟩ := WideShapes.okWide_slice ht hval
  simp only [Value.okWide, ht, Cell.okWide, Cell.ok] at hval
  obtain ⟨n, hn⟩ := h
  rcases DataW.trod_slice ht hn with ⟨hcs, _⟩ | ⟨a, len, cap, elems, rest, m, _, hcs, _, _, hl, hm, hlen, hels, _, _⟩
  · simp [Value.cells] at hcs
    obtain ⟨rfl, rfl, rfl⟩ := hcs
    exact ⟨[], [], hH, .inl ⟨rfl, rfl⟩, by simp, by simp⟩
  · simp [Value.cells] at hcs
    obtain ⟨rfl, rfl, rfl⟩ := hcs
    obtain ⟨_, _, hhas⟩ := hval
    obtain ⟨_, hspot, _⟩ := hhas
    obtain ⟨bb, off, sp⟩ := a
    simp only at hspot
    subst hspot
    have hm63 : l0 ≤ 9223372036854775807 := by have : c0 ≤ 9223372036854775807 := hm; omega
    have each : ∀ i, i < l0 → ∃ x, ok x ∧ ∀ j u, (ec x)[j]? = some u → W.cell? ⟨bb, off + i * sz + j, none⟩ = some u := fun i hi => by
      have h1 := hels i hi
      have h2 : elems[i]? = some elems[i] := List.getElem?_eq_getElem (by omega)
      rw [h2] at h1
      cases hc : W.cells? 0 ((⟨bb, off, none⟩ : Addr).add (i * P.cellsOf e)) (P.cellsOf e) with
      | none => rw [hc] at h1; simp at h1
      | some cs =>
        rw [hc] at h1
        obtain ⟨x, rfl, hx⟩ := hel _ _ _ h1
        refine ⟨x, hx, fun j u hu => ?_⟩
        rw [hsz, add_none] at hc
        simp only [World.cells?, Nat.zero_le, if_true] at hc
        have hj : j < sz := by rw [← hk x]; exact (List.getElem?_eq_some_iff.1 hu).1
        have := mapM_at hc j hj
        rw [hu] at this
        simpa [add_none] using this
    have hx := build_list each
    obtain ⟨l, hll, hlo, hlc⟩ := hx
    subst hll
    by_cases h0 : l = []
    · subst h0
      exact ⟨[], [], hH, .inr ⟨bb, off, c0, rfl, Nat.zero_le _, by simp⟩, by simp, by simp⟩
    · have hpos : 0 < l.length := List.length_pos_iff.2 h0
      have hfirst := hlc 0 l[0] (List.getElem?_eq_getElem hpos) 0 ((ec l[0])[0]'(by rw [hk]; exact hs0)) (List.getElem?_eq_getElem _)
      have hblk : bb < W.heap.size := block_lt_of_cell hfirst
      have hbb : W.heap[bb]? = some W.heap[bb] := Array.getElem?_eq_getElem hblk
      have hcells : ∀ w : World, w.heap[bb]? = some W.heap[bb] → ∀ i x, l[i]? = some x → ∀ j u, (ec x)[j]? = some u → w.cell? ⟨bb, off + i * sz + j, none⟩ = some u := fun w hw i x hi j u hu => by
        rw [← hlc i x hi j u hu]
        exact World.cell?_of_block (hw.trans hbb.symm)
      by_cases hz : ∃ o, (bb, o) ∈ HZ
      · obtain ⟨o, ho⟩ := hz
        have : o = W.heap[bb] := Option.some.inj ((hH.at_ _ ho).symm.trans hbb)
        subst this
        exact ⟨[], l, hH, .inr ⟨bb, off, c0, rfl, hl, fun w hw => hcells w (hw.at_ _ ho)⟩, hlo, hm63⟩
      · refine ⟨[(bb, W.heap[bb])], l, ⟨fun e he => ?_, ?_⟩, .inr ⟨bb, off, c0, rfl, hl, fun w hw => hcells w (hw.at_ (bb, _) (by simp))⟩, hlo, hm63⟩
        · rcases List.mem_append.1 he with he | he
          · simp only [List.mem_cons, List.not_mem_nil, or_false] at he; subst he; exact hbb
          · exact hH.at_ e he
        · refine List.pairwise_cons.2 ⟨fun e he h => hz ⟨e.2, ?_⟩, hH.ne⟩
          have he2 : (bb, e.2) = e := Prod.ext h rfl
          rw [he2]; exact he

end Go.Proofs.Ytjdjlcmajeikcaa
