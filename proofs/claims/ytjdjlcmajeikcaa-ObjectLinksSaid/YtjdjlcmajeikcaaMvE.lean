import Derived.Test.YtjdjlcmajeikcaaMvD
import Derived.Shelf.SlSortCmp.WholeK
import Derived.Shelf.SlSortCmp.NoneTotal
namespace Go.Mv
open Go Go.Sort Go.Proofs
theorem Fr.grow {w w' : World} (h : Fr w [] w') : ∃ q os, w' = Sort.grow (w.drewN q) os := by
  refine ⟨w'.drawn - w.drawn, w'.heap.extract w.heap.size w'.heap.size, ?_⟩
  have h1 : w'.heap = w.heap ++ w'.heap.extract w.heap.size w'.heap.size := by
    apply Array.ext_getElem?
    intro i
    by_cases hi : i < w.heap.size
    · rw [Array.getElem?_append_left hi]; exact h.block i hi (by simp)
    · rw [Array.getElem?_append_right (by omega), Array.getElem?_extract]
      by_cases hi' : i < w'.heap.size
      · rw [if_pos (by omega)]; congr 1; omega
      · rw [if_neg (by omega), Array.getElem?_eq_none (by omega)]
  have h2 := h.drawn
  have h3 := h.os
  have h4 := h.tape
  have h5 := h.output
  cases w with | mk hp tp dr os out =>
  cases w' with | mk hp' tp' dr' os' out' =>
  simp only [Sort.grow, World.drewN] at h1 h2 h3 h4 h5 ⊢
  subst h3; subst h4; subst h5
  simp only [World.mk.injEq, true_and, and_true]
  exact ⟨h1, by omega⟩

section sort
variable {α : Type} [Inhabited α] {enc : α → List Value} {k : Nat}
theorem flat_cat (hk : ∀ x, (enc x).length = k) (d : Array α) (t : Nat) (ht : t < d.size * k) : (cat enc d.toList)[t]? = some (flatK enc k d)[t]! := by
  have hs : 0 < k := by
    rcases Nat.eq_zero_or_pos k with h | h
    · subst h; simp at ht
    · exact h
  have hd : t / k < d.size := by rwa [Nat.div_lt_iff_lt_mul hs]
  have hm := Nat.mod_lt t hs
  have e : t = t / k * k + t % k := by rw [Nat.mul_comm]; exact (Nat.div_add_mod t k).symm
  rw [get_flatK enc k d t ht]
  conv => lhs; rw [e]
  rw [cat_get hk d.toList (t / k) (t % k) d[t / k]! (by rw [getElem!_pos d _ hd]; simp [hd]) hm]
  have : t % k < (enc d[t / k]!).length := by rw [hk]; exact hm
  rw [List.getElem?_eq_getElem this, getElem!_pos (enc d[t / k]!) (t % k) this]
theorem sortK_put (hk : ∀ x, (enc x).length = k) (xs : List α) (d : Array α) (tl : List Value) (h : d.size = xs.length) : putCells id 0 (flatK enc k d) (cat enc xs ++ tl).toArray = (cat enc d.toList ++ tl).toArray := by
  have hl : (cat enc xs).length = d.size * k := by rw [cat_len hk, h]
  have hl2 : (cat enc d.toList).length = d.size * k := by rw [cat_len hk]; simp
  apply Array.ext_getElem?
  intro t
  simp only [putCells, Array.getElem?_mapIdx, List.getElem?_toArray, size_flatK, Nat.zero_le, true_and, Nat.zero_add, Nat.sub_zero, id]
  by_cases ht : t < d.size * k
  · have e1 : t < (cat enc xs ++ tl).length := by rw [List.length_append]; omega
    rw [List.getElem?_eq_getElem e1, Option.map_some, if_pos ht, List.getElem?_append_left (by omega), flat_cat hk d t ht]
  · rw [List.getElem?_append_right (by omega), List.getElem?_append_right (by omega), hl, hl2]
    cases hx : tl[t - d.size * k]? with
    | none => rfl
    | some v => rw [Option.map_some, if_neg ht]
theorem sortK_same (w : World) (blk n : Nat) (d : Array α) (os : Array Obj) {cs : Array Value} {u : TypeId} {fz : Nat × Nat} (hb : w.heap[blk]? = some (.cells cs u fz)) : (sortWorldK enc k w blk 0 n d os).heap[blk]? = some (.cells (putCells id 0 (flatK enc k d) cs) u fz) := by
  have hlt := (Array.getElem?_eq_some_iff.1 hb).1
  simp only [sortWorldK, Sort.grow, putRowK, putRow, mapBlock, Sort.ahead]
  rw [Array.getElem?_append_left (by simpa using hlt), Array.getElem?_modify, if_pos rfl, hb]
  simp [onCells]
theorem sortK_other (w : World) (blk n : Nat) (d : Array α) (os : Array Obj) {j : Nat} (hj : j < w.heap.size) (hne : j ≠ blk) : (sortWorldK enc k w blk 0 n d os).heap[j]? = w.heap[j]? := by
  simp only [sortWorldK, Sort.grow, putRowK, putRow, mapBlock, Sort.ahead]
  rw [Array.getElem?_append_left (by simpa using hj), Array.getElem?_modify, if_neg (fun h => hne h.symm)]
theorem sortK_fr (w : World) (blk n : Nat) (d : Array α) (os : Array Obj) : Fr w [blk] (sortWorldK enc k w blk 0 n d os) :=
  ⟨rfl, rfl, rfl, by simp [sortWorldK, Sort.grow, putRowK, putRow, mapBlock, Sort.ahead], fun j hj hX => sortK_other w blk n d os hj (by simpa using hX), by simp [sortWorldK, Sort.grow, putRowK, putRow, mapBlock, Sort.ahead]⟩

theorem c_sortK {P : Program} {ρ : Shelf.Ren} (L : SlLaysF0.n6 P ρ) (aE : ∀ w, (isAgg (ρ.t 24)).run P w = .ok true w) (zE : ∀ w, (Go.sizeOf (ρ.t 24)).run P w = .ok k w) (hk : ∀ x, (enc x).length = k) (h1 : ∀ x, ∀ v ∈ enc x, v.oneCell' = true) (cf : α → α → Int) (hO : SWO (ltOf cf)) (g : Nat) (cb : Array Value)
    (eg : ∀ args w, (callFunc g args).run P w = .ok (.enter g args) w) (HC : Mem) (hcmp : ∀ x y W, Hp HC W → Calls P g (#[.agg (enc x).toArray, .agg (enc y).toArray] ++ cb) W (Ret W [] fun v _ => v = .int .i64 (cf x y)))
    (blk cap : Nat) (u : TypeId) (tl : List Value) (xs : List α) (w : World) (hw : Hp ((blk, .cells (cat enc xs ++ tl).toArray u (0, 0)) :: HC) w) (hsz : xs.length < 4611686018427387904) :
    Calls P (ρ.f 6) #[.slice (some ⟨blk, 0, none⟩) xs.length cap, .func (.func g) #[] cb] w (Ret w [blk] fun v H1 => v = .tuple #[] ∧ ∃ xs' : List α, xs'.Perm xs ∧ xs'.Pairwise (fun x y => ltOf cf y x = false) ∧ H1 = [(blk, .cells (cat enc xs' ++ tl).toArray u (0, 0))]) := by
  have hb := hw.at_ (blk, .cells (cat enc xs ++ tl).toArray u (0, 0)) List.mem_cons_self
  have hblk : blk < w.heap.size := (Array.getElem?_eq_some_iff.1 hb).1
  have hH : HoldsK enc k w blk 0 xs.toArray := fun t ht => by
    rw [size_flatK] at ht
    have hf := flat_cat hk xs.toArray t ht
    obtain ⟨hlt, _⟩ := List.getElem?_eq_some_iff.1 hf
    refine ⟨?_, frozen_of_row w blk _ _ u hb⟩
    simp only [World.cell?, hb, Nat.zero_add, id]
    have hf' : (cat enc xs)[t]? = some (flatK enc k xs.toArray)[t]! := hf
    have hlt' : t < (cat enc xs).length := hlt
    simp [List.getElem?_append_left hlt', hf']
  have hl : CmpLays P g cb enc k cf blk 0 xs.toArray.size w := fun m os dk hdk x y => by
    refine (hcmp x y _ ⟨fun e he => ?_, (List.pairwise_cons.1 hw.ne).2⟩).mono ?_
    · have hlt := hw.lt (e := e) (List.mem_cons_of_mem _ he)
      rw [sortK_other w blk m dk os hlt (Ne.symm ((List.pairwise_cons.1 hw.ne).1 e he))]
      exact hw.at_ e (List.mem_cons_of_mem _ he)
    · rintro e w' ⟨v, H1, rfl, rfl, hfr, _, _⟩
      obtain ⟨q, os', hq⟩ := hfr.grow
      exact ⟨rfl, q, os', hq⟩
  have hcon := AnyQ.slices_SortFunc L k aE zE enc hk h1 cf hO g cb blk 0 cap xs.toArray w eg hl hH hblk (by simpa using hsz)
  rw [List.size_toArray] at hcon
  refine hcon.mono ?_
  rintro e w' ⟨rfl, d', n, os, hp, hs, rfl⟩
  obtain ⟨hsz', _, hperm⟩ := hp
  have hsz' : d'.size = xs.length := hsz'
  refine ⟨_, [(blk, .cells (cat enc d'.toList ++ tl).toArray u (0, 0))], rfl, ⟨rfl, d'.toList, ?_, ?_, rfl⟩, sortK_fr w blk n d' os, ⟨fun e he => ?_, by simp⟩, fun e he => ?_⟩
  · have h2 : d'.extract 0 xs.length = d' := by rw [← hsz']; simp
    have h3 : xs.toArray.extract 0 xs.length = xs.toArray := by simp
    rw [h2, h3] at hperm
    exact hperm
  · rw [List.pairwise_iff_getElem]
    intro i j hi hj hij
    have := hs i j (Nat.zero_le _) hij (by simpa [hsz'] using hj)
    simp only [Array.length_toList] at hi hj
    rw [getElem!_pos d' i hi, getElem!_pos d' j hj] at this
    simpa using this
  · simp only [List.mem_cons, List.not_mem_nil, or_false] at he
    subst he
    rw [← sortK_put hk xs d' tl hsz']
    exact sortK_same w blk n d' os hb
  · simp only [List.mem_cons, List.not_mem_nil, or_false] at he
    subst he; exact .inl (by simp)
end sort
theorem cat_val {β : Type} {ok : β → Prop} (enc : β → List Value) : ∀ l : List {x // ok x}, cat (fun x : {x // ok x} => enc x.1) l = cat enc (l.map (·.1))
  | [] => rfl
  | x :: l => by simp [cat_val enc l]
theorem val_attach {β : Type} {ok : β → Prop} : ∀ l : List β, (∀ x ∈ l, ok x) → ∃ l' : List {x // ok x}, l'.map (·.1) = l
  | [], _ => ⟨[], rfl⟩
  | x :: l, h => by
    obtain ⟨l', hl⟩ := val_attach l (fun y hy => h y (List.mem_cons_of_mem _ hy))
    exact ⟨⟨x, h x List.mem_cons_self⟩ :: l', by simp [hl]⟩

/-- slices.SortFunc, where the elements are all such as ok says. -/
theorem c_sortS {β : Type} {enc : β → List Value} {k : Nat} (ok : β → Prop) (x0 : β) (hx0 : ok x0) {P : Program} {ρ : Shelf.Ren} (L : SlLaysF0.n6 P ρ) (aE : ∀ w, (isAgg (ρ.t 24)).run P w = .ok true w) (zE : ∀ w, (Go.sizeOf (ρ.t 24)).run P w = .ok k w) (hk : ∀ x, (enc x).length = k) (h1 : ∀ x, ∀ v ∈ enc x, v.oneCell' = true) (cf : β → β → Int)
    (hirr : ∀ x, ¬ cf x x < 0) (htr : ∀ x y z, cf x y < 0 → cf y z < 0 → cf x z < 0) (hnt : ∀ x y z, ¬ cf x y < 0 → ¬ cf y z < 0 → ¬ cf x z < 0) (g : Nat) (cb : Array Value)
    (eg : ∀ args w, (callFunc g args).run P w = .ok (.enter g args) w) (HC : Mem) (hcmp : ∀ x y W, ok x → ok y → Hp HC W → Calls P g (#[.agg (enc x).toArray, .agg (enc y).toArray] ++ cb) W (Ret W [] fun v _ => v = .int .i64 (cf x y)))
    (blk cap : Nat) (u : TypeId) (tl : List Value) (xs : List β) (hxs : ∀ x ∈ xs, ok x) (w : World) (hw : Hp ((blk, .cells (cat enc xs ++ tl).toArray u (0, 0)) :: HC) w) (hsz : xs.length < 4611686018427387904) :
    Calls P (ρ.f 6) #[.slice (some ⟨blk, 0, none⟩) xs.length cap, .func (.func g) #[] cb] w (Ret w [blk] fun v H1 => v = .tuple #[] ∧ ∃ xs' : List β, xs'.Perm xs ∧ xs'.Pairwise (fun x y => ¬ cf y x < 0) ∧ H1 = [(blk, .cells (cat enc xs' ++ tl).toArray u (0, 0))]) := by
  obtain ⟨l, rfl⟩ := val_attach xs hxs
  have : Inhabited {x // ok x} := ⟨⟨x0, hx0⟩⟩
  have hlt : ∀ x y : {x // ok x}, ltOf (fun x y : {x // ok x} => cf x.1 y.1) x y = decide (cf x.1 y.1 < 0) := fun _ _ => rfl
  have hO : SWO (ltOf fun x y : {x // ok x} => cf x.1 y.1) := ⟨fun x => by rw [hlt]; simpa using hirr x.1, fun x y z h2 h3 => by rw [hlt] at *; simp only [decide_eq_true_eq] at *; exact htr _ _ _ h2 h3, fun x y z h2 h3 => by rw [hlt] at *; simp only [decide_eq_false_iff_not] at *; exact hnt _ _ _ h2 h3⟩
  have h := c_sortK (enc := fun x : {x // ok x} => enc x.1) L aE zE (fun x => hk x.1) (fun x => h1 x.1) (fun x y => cf x.1 y.1) hO g cb eg HC (fun x y W hW => hcmp x.1 y.1 W x.2 y.2 hW) blk cap u tl l w (by rw [cat_val]; exact hw) (by simpa using hsz)
  rw [List.length_map]
  refine h.mono ?_
  rintro e w' ⟨v, H1, rfl, ⟨rfl, xs', hp, hs, rfl⟩, hfr, hH, hn⟩
  refine ⟨_, _, rfl, ⟨rfl, xs'.map (·.1), hp.map _, ?_, rfl⟩, hfr, ?_, ?_⟩
  · rw [List.pairwise_map]
    refine hs.imp ?_
    intro x y h2
    rw [hlt] at h2; simpa using h2
  · rw [← cat_val]; exact hH
  · rw [← cat_val]; exact hn

/-- .. of a slice that was built up. -/
theorem c_sortB {β : Type} {enc : β → List Value} {k : Nat} (ok : β → Prop) (x0 : β) (hx0 : ok x0) {P : Program} {ρ : Shelf.Ren} (L : SlLaysF0.n6 P ρ) (aE : ∀ w, (isAgg (ρ.t 24)).run P w = .ok true w) (zE : ∀ w, (Go.sizeOf (ρ.t 24)).run P w = .ok k w) (hk : ∀ x, (enc x).length = k) (h1 : ∀ x, ∀ v ∈ enc x, v.oneCell' = true) (cf : β → β → Int)
    (hirr : ∀ x, ¬ cf x x < 0) (htr : ∀ x y z, cf x y < 0 → cf y z < 0 → cf x z < 0) (hnt : ∀ x y z, ¬ cf x y < 0 → ¬ cf y z < 0 → ¬ cf x z < 0) (g : Nat) (cb : Array Value)
    (eg : ∀ args w, (callFunc g args).run P w = .ok (.enter g args) w) (HC : Mem) (hcmp : ∀ x y W, ok x → ok y → Hp HC W → Calls P g (#[.agg (enc x).toArray, .agg (enc y).toArray] ++ cb) W (Ret W [] fun v _ => v = .int .i64 (cf x y)))
    (u : TypeId) (xs : List β) (st : SnkS) (hok : BldOk k enc xs st) (hxs : ∀ x ∈ xs, ok x) (w : World) (hw : Hp (bldMx u enc xs st ++ HC) w) (hsz : xs.length ≤ 1000000) :
    Calls P (ρ.f 6) #[bldVx xs st, .func (.func g) #[] cb] w (Ret w (keys (bldMx u enc xs st)) fun v H1 => v = .tuple #[] ∧ ∃ xs' : List β, xs'.Perm xs ∧ xs'.Pairwise (fun x y => ¬ cf y x < 0) ∧ H1 = bldMx u enc xs' st ∧ bldVx xs' st = bldVx xs st ∧ BldOk k enc xs' st) := by
  rcases st with _ | ⟨b, cap, tl⟩
  · obtain rfl : xs = [] := hok
    refine (AnyF.slices_SortFunc_none L none 0 (.func (.func g) #[] cb) w).mono ?_
    rintro e w' ⟨rfl, rfl⟩
    exact ⟨_, [], rfl, ⟨rfl, [], .nil, .nil, rfl, rfl, rfl⟩, Fr.refl _ _, Hp.nil _, by simp⟩
  · refine (c_sortS ok x0 hx0 L aE zE hk h1 cf hirr htr hnt g cb eg HC hcmp b cap u tl xs hxs w hw (by omega)).mono ?_
    rintro e w' ⟨v, H1, rfl, ⟨rfl, xs', hp, hs, rfl⟩, hfr, hH, hn⟩
    refine ⟨_, _, rfl, ⟨rfl, xs', hp, hs, rfl, by simp [bldVx, hp.length_eq], hok.1 |> fun h => ⟨by rw [hp.length_eq]; exact h, hok.2.1, ?_⟩⟩, hfr, hH, hn⟩
    have := hok.2.2
    rw [List.length_append, cat_len hk] at this ⊢
    rw [hp.length_eq]; exact this
end Go.Mv
