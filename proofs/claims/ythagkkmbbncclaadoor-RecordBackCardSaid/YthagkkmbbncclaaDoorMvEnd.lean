import Derived.Test.YthagkkmbbncclaaDoorMvLeb
import Derived.RangeFuncRecord
namespace Go.Mv
open Go

/-- The end of a function that bears a mark of a range. -/
theorem pn_doneC {P : Program} {fn : Func} {E : Env} {H : Mem} {post : Value → Mem → Prop} {X : List Nat} {N D : Nat} {w : World} {l : List ResultVar} {vs : List Value} {H1 : Mem} (A B : Mem) (hAB : H = A ++ (D, .deferred (some [])) :: B)
    (hl : fn.results = l.toArray) (hv : resE E l = some vs) (hp : post (tupV vs) H1) (hH : H1.Sublist (A ++ B)) (hn : ∀ e ∈ H1, e.1 ∈ X ∨ w.heap.size ≤ e.1) (hD : w.heap.size ≤ D) :
    PN ⟨N, [{ target := .collected D, args := #[] }], w, X⟩ (retP P fn (Ret w X post)) E H := fun a w' hr hs => by
  unfold retP
  rw [hr.defers]
  have hpm : Hp ((D, .deferred (some [])) :: (A ++ B)) w' := hs.hp.perm (by rw [hAB]; exact List.perm_middle)
  have hget : w'.heap[D]? = some (.deferred (some [])) := hpm.at_ (D, _) (by simp)
  refine ⟨by simp, .inl ⟨D, _, rfl, run_takeDeferred hget, ?_⟩⟩
  have hp2 : Hp (A ++ B) (w'.putObj D (.deferred none)) := (hpm.putObj (o' := .deferred none)).sub (List.sublist_cons_self _ _)
  refine ⟨_, results_run hr _ hl hv, _, H1, rfl, hp, hs.fr.putObj D _ (.inr hD), hp2.sub hH, hn⟩

theorem Hp.pickT {A T : Mem} {w : World} (h : Hp (A ++ T) w) {is : List Nat} (hlt : (is.all fun i => Nat.blt i A.length) = true) (hn : nodupN is = true) : Hp (Mv.pick A is ++ T) w :=
  (h.left.pick hlt hn).append h.right (fun a ha b hb => by
    obtain ⟨i, _, hi⟩ := pick_mem hlt a ha
    exact (List.pairwise_append.1 h.ne).2.2 a (List.mem_of_getElem? hi) b hb)

section code
variable {P : Program} {rd : Option Nat} {p : Pst} {C : Ctx} {E : Env} {H : Mem} {ops : Array Oper} {id : Nat}
/-- The same where the list's end is not told. -/
theorem pn_drawT (q : List Nat) (is js : List Nat) {n : Nat} (A T : Mem) (hH : H = A ++ T) (hn : ops.size = n) (hm : P.follows .mixedOrders = true) (hc : chk ops (ld ops q) (Region.before ops) = true)
    (h1 : ((is ++ js).all fun i => Nat.blt i A.length) = true) (h2 : nodupN (is ++ js) = true) (h : TE P rd ops p q C (pick A js ++ T) (line 0 n) E (pick A is)) : PN C (WP P rd (.region id ops true) p) E H := fun a w hr hs => by
  have hp : Hp (pick A (is ++ js) ++ T) w := (hH ▸ hs.hp).pickT h1 h2
  have happ : ∀ (l : List Nat), pick A (l ++ js) = pick A l ++ pick A js := fun l => by induction l with
    | nil => rfl
    | cons i l ih => simp [pick, ih]
  rw [happ, List.append_assoc] at hp
  refine wp_draw hm hc hp.right.drew ?_
  rw [hn, List.range_eq_range', ← TT_line]
  exact h a w.drew hr ⟨hs.fr.drew, hp.drew⟩
/-- The same where several orders are walked. -/
theorem pn_drawM (q : List Nat) (is js : List Nat) (t : Tr) (A T : Mem) (hH : H = A ++ T) (hm : P.follows .mixedOrders = true) (hp : plainOps ops = true) (hc : chkT ops (ld ops q) ops.size (Array.replicate ops.size false) t = true)
    (h1 : ((is ++ js).all fun i => Nat.blt i A.length) = true) (h2 : nodupN (is ++ js) = true) (h : TE P rd ops p q C (pick A js ++ T) t E (pick A is)) : PN C (WP P rd (.region id ops true) p) E H := fun a w hr hs => by
  have hp' : Hp (pick A (is ++ js) ++ T) w := (hH ▸ hs.hp).pickT h1 h2
  have happ : ∀ (l : List Nat), pick A (l ++ js) = pick A l ++ pick A js := fun l => by induction l with
    | nil => rfl
    | cons i l ih => simp [pick, ih]
  rw [happ, List.append_assoc] at hp'
  exact wp_drawT hm hp hc hp'.right.drew (h a w.drew hr ⟨hs.fr.drew, hp'.drew⟩)
theorem pn_pickT (is : List Nat) {K : Act → World → Prop} (A T : Mem) (hH : H = A ++ T) (h1 : (is.all fun i => Nat.blt i A.length) = true) (h2 : nodupN is = true) (h : PN C K E (pick A is ++ T)) : PN C K E H :=
  fun a w hr hs => h a w hr ⟨hs.fr, (hH ▸ hs.hp).pickT h1 h2⟩
end code

def seqT : List Nat → Tr → Tr
  | [], t => t
  | i :: r, t => .op i (seqT r t)

/-! ### A sink -/
abbrev SnkS := Option (Nat × Nat × List Value)
def snkM (T u : TypeId) (s : Nat) (l : List UInt8) : SnkS → Mem
  | none => [(s, .cells #[.slice none 0 0] T (0, 0))]
  | some (b, cap, tl) => [(s, .cells #[.slice (some ⟨b, 0, none⟩) l.length cap] T (0, 0)), (b, .cells (bcells l ++ tl).toArray u (0, 0))]
def SnkOk (l : List UInt8) : SnkS → Prop
  | none => l = []
  | some (_, cap, tl) => l.length ≤ cap ∧ cap ≤ maxLen ∧ (bcells l ++ tl).length = cap * 1

theorem u64_of {x : Int} (h0 : 0 ≤ x) (h1 : x < 18446744073709551616) : Value.int .u64 (IntKind.u64.wrap x) = .int .u64 ((x.toNat : Nat) : Int) := by
  rw [u64_wrap, Int.emod_eq_of_lt h0 h1, Int.toNat_of_nonneg h0]

theorem snk_app (T u : TypeId) (s b cap : Nat) (l y : List UInt8) (tl : List Value) : snkM T u s (l ++ y) (some (b, cap, tl)) = [(s, .cells #[.slice (some ⟨b, 0, none⟩) (l.length + y.length) cap] T (0, 0)), (b, .cells (bcells l ++ bcells y ++ tl).toArray u (0, 0))] := by
  simp [snkM]
theorem SnkOk_app {l y : List UInt8} {b cap : Nat} {tl : List Value} (h1 : l.length + y.length ≤ cap) (h2 : cap ≤ maxLen) (h3 : (bcells l ++ bcells y ++ tl).length = cap * 1) : SnkOk (l ++ y) (some (b, cap, tl)) :=
  ⟨by simpa using h1, h2, by rw [bcells_append]; exact h3⟩

theorem pn_endR {C : Ctx} {E : Env} {H : Mem} {σ : Type} {l : Nat} {HJ : σ → Mem} {s : σ} {R : Mem} {G : σ → Prop} (s' : σ) (hX : C.X = l :: keys (HJ s)) (hG : G s') (hH : ∀ w, Hp H w → Hp (HJ s' ++ R) w) (hn : ∀ e ∈ HJ s', e.1 ∈ keys (HJ s) ∨ C.w0.heap.size ≤ e.1) :
    PN C (EndR C.w0 l HJ s R G) E H := fun a w hr hs => ⟨s', hG, ⟨hX ▸ hs.fr, hH w hs.hp⟩, hn⟩
theorem maxLen_ge {n : Nat} (h : n ≤ 9223372036854775807) : n ≤ maxLen := h
theorem length_of_prefix {α : Type} {pre : List α} {x : α} {xs : List α} (h : (pre ++ [x]) <+: xs) : pre.length + 1 ≤ xs.length := by
  have := h.length_le; simpa using this

theorem snk_all {T u : TypeId} {s b cap : Nat} {l : List UInt8} {tl : List Value} (Q : Nat → Prop) (h : Q s) (hb : Q b) : ∀ e ∈ snkM T u s l (some (b, cap, tl)), Q e.1 := by
  intro e he
  simp only [snkM, List.mem_cons, List.not_mem_nil, or_false] at he
  rcases he with rfl | rfl
  · exact h
  · exact hb
theorem snk_s {T u : TypeId} {s : Nat} {l : List UInt8} {st : SnkS} (Q : Nat → Prop) (h : ∀ e ∈ snkM T u s l st, Q e.1) : Q s := by
  rcases st with _ | ⟨b, cap, tl⟩
  · exact h (s, _) (by simp only [snkM, List.mem_cons]; exact .inl rfl)
  · exact h (s, _) (by simp only [snkM, List.mem_cons]; exact .inl rfl)
theorem snk_b {T u : TypeId} {s b cap : Nat} {l : List UInt8} {tl : List Value} (Q : Nat → Prop) (h : ∀ e ∈ snkM T u s l (some (b, cap, tl)), Q e.1) : Q b :=
  h (b, _) (by simp only [snkM, List.mem_cons]; exact .inr (.inl rfl))
theorem in_keys {H : Mem} {n : Nat} : ∀ e ∈ H, e.1 ∈ keys H ∨ n ≤ e.1 := fun e he => .inl (mem_keys.2 ⟨e, he, rfl⟩)
end Go.Mv
