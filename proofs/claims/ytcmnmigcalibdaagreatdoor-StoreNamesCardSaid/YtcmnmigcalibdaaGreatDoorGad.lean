import Derived.Test.YtcmnmigcalibdaaGreatDoorGac
import Derived.Shelf.SlSortCmp.WholeK
import Derived.Shelf.SlSortCmp.NoneTotal
namespace Go.Mv
open Go
open Classical in
noncomputable def one (a e : Nat × Obj) : Nat := if a = e then 1 else 0
theorem one_self (a : Nat × Obj) : one a a = 1 := by unfold one; rw [if_pos rfl]
theorem one_ne {a e : Nat × Obj} (h : a ≠ e) : one a e = 0 := by unfold one; rw [if_neg h]
noncomputable def cnt (a : Nat × Obj) : Mem → Nat
  | [] => 0
  | e :: r => one a e + cnt a r
@[simp] theorem cnt_nil (a : Nat × Obj) : cnt a [] = 0 := rfl
@[simp] theorem cnt_cons (a e : Nat × Obj) (r : Mem) : cnt a (e :: r) = one a e + cnt a r := rfl
@[simp] theorem cnt_append (a : Nat × Obj) : ∀ A B : Mem, cnt a (A ++ B) = cnt a A + cnt a B
  | [], B => by rw [List.nil_append, cnt_nil, Nat.zero_add]
  | e :: r, B => by rw [List.cons_append, cnt_cons, cnt_cons, cnt_append a r B, Nat.add_assoc]
theorem cnt_mem {a : Nat × Obj} : ∀ {H : Mem}, 0 < cnt a H → a ∈ H
  | [], h => by rw [cnt_nil] at h; omega
  | e :: r, h => by
    by_cases he : a = e
    · rw [he]; exact List.mem_cons_self
    · rw [cnt_cons, one_ne he, Nat.zero_add] at h
      exact List.mem_cons_of_mem _ (cnt_mem h)
theorem mem_cnt {a : Nat × Obj} : ∀ {H : Mem}, a ∈ H → 0 < cnt a H
  | [], h => by simp at h
  | e :: r, h => by
    rw [cnt_cons]
    rcases List.mem_cons.1 h with rfl | h
    · rw [one_self]; omega
    · have := mem_cnt h; omega
theorem Hp.sp : ∀ {H' H : Mem} {w : World}, Hp H w → (∀ a, cnt a H' ≤ cnt a H) → Hp H' w
  | [], _, w, _, _ => Hp.nil w
  | e :: r, H, w, h, hc => by
    have he : e ∈ H := cnt_mem (by have := hc e; rw [cnt_cons, one_self] at this; omega)
    obtain ⟨A, B, rfl⟩ := List.append_of_mem he
    have hp : Hp (e :: (A ++ B)) w := h.perm List.perm_middle
    have hle : ∀ a, cnt a r ≤ cnt a (A ++ B) := fun a => by
      have := hc a
      rw [cnt_cons, cnt_append, cnt_cons] at this
      rw [cnt_append]; omega
    have hr : Hp r w := Hp.sp (hp.sub (List.sublist_cons_self _ _)) hle
    refine ⟨fun f hf => ?_, List.pairwise_cons.2 ⟨fun f hf => (List.pairwise_cons.1 hp.ne).1 f ?_, hr.ne⟩⟩
    · rcases List.mem_cons.1 hf with rfl | hf
      · exact hp.at_ f List.mem_cons_self
      · exact hr.at_ f hf
    · exact cnt_mem (Nat.lt_of_lt_of_le (mem_cnt hf) (hle f))
theorem pn_sp {C : Ctx} {K : Act → World → Prop} {E : Env} {H : Mem} (H' : Mem) (hc : ∀ a, cnt a H' ≤ cnt a H) (h : PN C K E H') : PN C K E H := pn_perm H' (fun _ hw => hw.sp hc) h

@[simp] theorem pick_nil (H : Mem) : pick H [] = [] := rfl
@[simp] theorem pick_cons (H : Mem) (i : Nat) (is : List Nat) : pick H (i :: is) = H.getD i (0, default) :: pick H is := rfl

theorem pn_againS {C : Ctx} {E : Env} {H : Mem} {σ : Type} {EE : σ → Env} {HH : σ → Mem} {I : σ → Prop} {μ : σ → Nat} {n : Nat} (s' : σ) (hI : I s') (hm : μ s' < n) (hE : Keeps E (EE s')) (hc : ∀ a, cnt a (HH s') ≤ cnt a H) :
    PN C (fun a w => ∃ s', I s' ∧ μ s' < n ∧ Rep C.N C.ds (EE s') a ∧ St C.w0 C.X (HH s') w) E H := fun _ _ hr hs => ⟨s', hI, hm, hr.keeps hE, hs.fr, hs.hp.sp hc⟩
theorem pn_loopS {P : Program} {rd : Option Nat} {p : Pst} {C : Ctx} {E : Env} {H : Mem} {σ : Type} {c : Code} (EE : σ → Env) (HH : σ → Mem) (I : σ → Prop) (μ : σ → Nat) (s0 : σ) (h0 : I s0) (hE : Keeps E (EE s0)) (hH : ∀ a, cnt a (HH s0) ≤ cnt a H)
    (h : ∀ s, I s → PN C (WP P rd c { p with n := fun a w => ∃ s', I s' ∧ μ s' < μ s ∧ Rep C.N C.ds (EE s') a ∧ St C.w0 C.X (HH s') w }) (EE s) (HH s)) :
    PN C (WP P rd (.loop c) p) E H := pn_sp (HH s0) hH (pn_loop EE HH I μ s0 h0 hE (List.Sublist.refl _) h)
/-- The end of a function; what it leaves lies in what is known. -/
theorem pn_doneS {P : Program} {fn : Func} {E : Env} {H : Mem} {post : Value → Mem → Prop} {X : List Nat} {N : Nat} {w : World} {l : List ResultVar} {vs : List Value} (H1 : Mem) (hl : fn.results = l.toArray) (hv : resE E l = some vs) (hp : post (tupV vs) H1) (hc : ∀ a, cnt a H1 ≤ cnt a H) (hn : ∀ e ∈ H1, w.heap.size ≤ e.1 ∨ e.1 ∈ X) :
    PN ⟨N, [], w, X⟩ (retP P fn (Ret w X post)) E H := pn_sp H1 hc (pn_done hl hv hp (List.Sublist.refl _) (fun e he => (hn e he).symm))

def cat {α : Type} (enc : α → List Value) (l : List α) : List Value := l.flatMap enc
section cat
variable {α : Type} {enc : α → List Value} {sz : Nat}
@[simp] theorem cat_nil : cat enc [] = [] := rfl
@[simp] theorem cat_cons (x : α) (l : List α) : cat enc (x :: l) = enc x ++ cat enc l := by simp [cat]
@[simp] theorem cat_append (l m : List α) : cat enc (l ++ m) = cat enc l ++ cat enc m := by simp [cat]
theorem cat_len (hk : ∀ x, (enc x).length = sz) : ∀ l : List α, (cat enc l).length = l.length * sz
  | [] => by simp
  | x :: l => by rw [cat_cons, List.length_append, hk, cat_len hk l, List.length_cons, Nat.add_mul, Nat.one_mul, Nat.add_comm]
theorem cat_get (hk : ∀ x, (enc x).length = sz) : ∀ (l : List α) (i j : Nat) (x : α), l[i]? = some x → j < sz → (cat enc l)[i * sz + j]? = (enc x)[j]?
  | [], i, j, x, h, _ => by simp at h
  | y :: l, 0, j, x, h, hj => by
    simp only [List.getElem?_cons_zero, Option.some.injEq] at h
    subst h
    rw [cat_cons, Nat.zero_mul, Nat.zero_add, List.getElem?_append_left (by rw [hk]; exact hj)]
  | y :: l, i + 1, j, x, h, hj => by
    rw [List.getElem?_cons_succ] at h
    rw [cat_cons, List.getElem?_append_right (by rw [hk, Nat.add_mul]; omega), hk, show (i + 1) * sz + j - sz = i * sz + j from by rw [Nat.add_mul]; omega]
    exact cat_get hk l i j x h hj
theorem cat_one (h1 : ∀ x, ∀ v ∈ enc x, v.oneCell' = true) (l : List α) : ∀ v ∈ cat enc l, v.oneCell' = true := fun v hv => by
  obtain ⟨x, _, hx⟩ := List.mem_flatMap.1 hv
  exact h1 x v hx
theorem cat_out (hk : ∀ x, (enc x).length = sz) (hs : 0 < sz) {l : List α} {t : Nat} {u : Value} (h : (cat enc l)[t]? = some u) : ∃ x, l[t / sz]? = some x ∧ (enc x)[t % sz]? = some u ∧ t / sz < l.length := by
  obtain ⟨hlt, _⟩ := List.getElem?_eq_some_iff.1 h
  rw [cat_len hk] at hlt
  have hd : t / sz < l.length := by rwa [Nat.div_lt_iff_lt_mul hs]
  refine ⟨l[t / sz], List.getElem?_eq_getElem hd, ?_, hd⟩
  rw [← cat_get hk l (t / sz) (t % sz) _ (List.getElem?_eq_getElem hd) (Nat.mod_lt _ hs), Nat.mul_comm, Nat.div_add_mod]
  exact h
end cat
/-- A slice of such that can be read, and parted. -/
def Rdx {α : Type} (sz : Nat) (enc : α → List Value) (H : Mem) (v : Value) (xs : List α) : Prop :=
  (NilS v ∧ xs = []) ∨ ∃ b off cap, v = .slice (some ⟨b, off, none⟩) xs.length cap ∧ xs.length ≤ cap ∧ ∀ w, Hp H w → ∀ i x, xs[i]? = some x → ∀ j u, (enc x)[j]? = some u → w.cell? ⟨b, off + i * sz + j, none⟩ = some u

section rdx
variable {α : Type} {sz : Nat} {enc : α → List Value} {H H' : Mem} {v : Value} {xs : List α}
theorem Rdx.mono (h : Rdx sz enc H v xs) (hs : ∀ w, Hp H' w → Hp H w) : Rdx sz enc H' v xs := by
  rcases h with h | ⟨b, off, cap, h1, h2, h3⟩
  · exact .inl h
  · exact .inr ⟨b, off, cap, h1, h2, fun w hw => h3 w (hs w hw)⟩
theorem Rdx.nil : Rdx sz enc H (.slice none 0 0) [] := .inl ⟨⟨_, rfl⟩, rfl⟩
theorem Rdx.part (h : Rdx sz enc H v xs) : (v = .slice none 0 0 ∧ xs = []) ∨ ∃ ad n c, v = .slice (some ad) n c := by
  rcases h with ⟨⟨a, rfl⟩, rfl⟩ | ⟨b, off, cap, rfl, _, _⟩
  · rcases a with _ | ad
    · exact .inl ⟨rfl, rfl⟩
    · exact .inr ⟨_, _, _, rfl⟩
  · exact .inr ⟨_, _, _, rfl⟩
theorem Rdx.shape (h : Rdx sz enc H v xs) : ∃ a c, v = .slice a xs.length c := by
  rcases h with ⟨⟨a, rfl⟩, rfl⟩ | ⟨b, off, cap, rfl, _, _⟩
  · exact ⟨a, 0, rfl⟩
  · exact ⟨_, _, rfl⟩
theorem Rdx.at (h : Rdx sz enc H v xs) {i : Nat} {x : α} (hi : xs[i]? = some x) : ∃ b off cap, v = .slice (some ⟨b, off, none⟩) xs.length cap ∧ xs.length ≤ cap ∧ ∀ w, Hp H w → ∀ j u, (enc x)[j]? = some u → w.cell? ⟨b, off + i * sz + j, none⟩ = some u := by
  rcases h with ⟨_, rfl⟩ | ⟨b, off, cap, rfl, h1, h2⟩
  · simp at hi
  · exact ⟨b, off, cap, rfl, h1, fun w hw => h2 w hw i x hi⟩
theorem add_none (b off j : Nat) : (⟨b, off, none⟩ : Addr).add j = ⟨b, off + j, none⟩ := by
  unfold Addr.add; split
  · simp
  · rfl
theorem Rdx.blk (hk : ∀ x, (enc x).length = sz) {i b c n : Nat} {tl : List Value} {t : TypeId} {fz : Nat × Nat} (hi : H[i]? = some (b, .cells (cat enc xs ++ tl).toArray t fz)) (hn : n = xs.length) (hc : xs.length ≤ c) : Rdx sz enc H (.slice (some ⟨b, 0, none⟩) n c) xs := by
  subst hn
  refine .inr ⟨b, 0, c, rfl, hc, fun w hw k x hx j u hu => ?_⟩
  have hj : j < sz := by rw [← hk x]; exact (List.getElem?_eq_some_iff.1 hu).1
  have h1 := cat_get hk xs k j x hx hj
  rw [hu] at h1
  obtain ⟨hlt, _⟩ := List.getElem?_eq_some_iff.1 h1
  rw [cell_of hw hi, Nat.zero_add]
  simp only [List.getElem?_toArray]
  rw [List.getElem?_append_left hlt, h1]
theorem Rdx.src (hk : ∀ x, (enc x).length = sz) (hs : 0 < sz) {C : Ctx} (h : Rdx sz enc H v xs) (hne : xs ≠ []) (hm : ∀ w, Hp H' w → Hp H w) : Src C H' v xs.length (cat enc xs) := by
  rcases h with ⟨_, h⟩ | ⟨b, off, cap, rfl, h1, h2⟩
  · exact absurd h hne
  · refine ⟨⟨b, off, none⟩, cap, rfl, fun w hw t u hu => ?_⟩
    obtain ⟨x, hx, hu', _⟩ := cat_out hk hs hu
    rw [add_none]
    have := h2 w (hm w hw.hp) _ x hx _ u hu'
    rwa [Nat.add_assoc, show t / sz * sz + t % sz = t from by rw [Nat.mul_comm]; exact Nat.div_add_mod t sz] at this

def subVx (sz l h : Nat) : Value → Value
  | .slice (some ⟨b, off, s⟩) _ cap => .slice (some ⟨b, if cap = l then off else off + l * sz, if cap = l then s else none⟩) (h - l) (cap - l)
  | v => v
theorem Rdx.sub (h : Rdx sz enc H v xs) {l r : Nat} (h1 : l ≤ r) (h2 : r ≤ xs.length) : Rdx sz enc H (subVx sz l r v) ((xs.take r).drop l) := by
  rcases h with ⟨⟨a, rfl⟩, rfl⟩ | ⟨b, off, cap, rfl, h3, h4⟩
  · have : r = 0 := by simpa using h2
    subst this
    have : l = 0 := by omega
    subst this
    refine .inl ⟨⟨a, ?_⟩, by simp⟩
    rcases a with _ | ⟨b, o, s⟩ <;> simp [subVx]
  · refine .inr ⟨b, if cap = l then off else off + l * sz, cap - l, ?_, ?_, ?_⟩
    · simp only [subVx, List.length_drop, List.length_take, Nat.min_eq_left h2, ite_self]
    · simp only [List.length_drop, List.length_take]; omega
    · intro w hw i x hi j u hu
      obtain ⟨hlt, _⟩ := List.getElem?_eq_some_iff.1 hi
      simp only [List.length_drop, List.length_take] at hlt
      rw [List.getElem?_drop, List.getElem?_take_of_lt (by omega)] at hi
      rw [if_neg (show ¬ cap = l by omega)]
      have := h4 w hw _ x hi j u hu
      rwa [Nat.add_mul, ← Nat.add_assoc] at this
end rdx
section rd
variable {P : Program} {ty : TypeId} {E : Env} {L : Mem} {v u : Value} {x y z : Operand} {T U : TypeId}
theorem RD.lenX {α : Type} {sz : Nat} {enc : α → List Value} {H : Mem} {xs : List α} {e : TypeId} (hT : ∀ w, (underlying T).run P w = .ok (.slice e) w) (hx : evalE E x = some v) (hb : Rdx sz enc H v xs) : RD P (.call ⟨.builtin .len, #[x], #[T]⟩) ty E L (.int .i64 xs.length) := by
  obtain ⟨a, c, rfl⟩ := hb.shape
  exact RD.len_slice hT hx
/-- An element's address. -/
theorem RD.indexX {b off len cap sz : Nat} {el : TypeId} {k : IntKind} {i : Nat} {z : Int} (hT : ∀ w, (underlying T).run P w = .ok (.slice el) w) (hz : ∀ w, (sizeOf el).run P w = .ok sz w) (hx : evalE E x = some (.slice (some ⟨b, off, none⟩) len cap)) (hy : evalE E y = some (.int k z)) (hi : z = (i : Int)) (h1 : i < len) :
    RD P (.indexAddr T x y) ty E L (.pointer (some ⟨b, off + i * sz, none⟩)) := by
  subst hi
  exact RD.indexAddrS hT hz hx hy (by omega) (by omega)
/-- Several cells that are known to be there. -/
theorem RD.loadX {b off n : Nat} {vs : List Value} (ha : ∀ w, (isAgg T).run P w = .ok true w) (hs : ∀ w, (sizeOf T).run P w = .ok n w) (hx : evalE E x = some (.pointer (some ⟨b, off, none⟩))) (hn : vs.length = n) (hc : ∀ w, Hp L w → ∀ j u, vs[j]? = some u → w.cell? ⟨b, off + j, none⟩ = some u) :
    RD P (.load T x) ty E L (.agg vs.toArray) := fun ρ w _ _ _ _ hρ hL => by
  have h := run_loadCells_list (P := P) w ⟨b, off, none⟩ vs (fun j u hj => by rw [add_none]; exact hc w hL j u hj)
  rw [hn] at h
  simp [execOp, hρ _ _ hx, Instr.loadAt, Instr.sureAddr, loadVar, ha, hs, h]
theorem RD.sliceX {α : Type} {sz : Nat} {enc : α → List Value} {H : Mem} {xs : List α} {el : TypeId} {lo hi : Option Operand} {l h : Nat} (hT : ∀ w, (underlying T).run P w = .ok (.slice el) w) (hz : ∀ w, (sizeOf el).run P w = .ok sz w) (hx : evalE E x = some v) (hb : Rdx sz enc H v xs)
    (hlo : match lo with | none => l = 0 | some o => ∃ k, evalE E o = some (.int k l)) (hhi : match hi with | none => h = xs.length | some o => ∃ k, evalE E o = some (.int k h)) (h1 : l ≤ h) (h2 : h ≤ xs.length) :
    RD P (.slice T x lo hi none) ty E L (subVx sz l h v) := fun ρ w _ _ _ _ hρ _ => by
  rcases hb with ⟨⟨a, rfl⟩, rfl⟩ | ⟨b, off, cap, rfl, h3, h4⟩
  · have h0 : h = 0 := by simpa using h2
    subst h0
    have l0 : l = 0 := by omega
    subst l0
    cases lo with
    | none =>
      cases hi with
      | none => simp [execOp, Instr.sliceAt, Instr.slice, Instr.sliceBounds, hT, hz, hρ _ _ hx]; rcases a with _ | ⟨b, o, s⟩ <;> simp [subVx]
      | some o =>
        obtain ⟨k, ho⟩ := hhi
        simp [execOp, Instr.sliceAt, Instr.slice, Instr.sliceBounds, Instr.sliceBound, asIntOf, hT, hz, hρ _ _ hx, hρ _ _ ho]; rcases a with _ | ⟨b, o, s⟩ <;> simp [subVx]
    | some o' =>
      obtain ⟨k', ho'⟩ := hlo
      cases hi with
      | none => simp [execOp, Instr.sliceAt, Instr.slice, Instr.sliceBounds, Instr.sliceBound, asIntOf, hT, hz, hρ _ _ hx, hρ _ _ ho']; rcases a with _ | ⟨b, o, s⟩ <;> simp [subVx]
      | some o =>
        obtain ⟨k, ho⟩ := hhi
        simp [execOp, Instr.sliceAt, Instr.slice, Instr.sliceBounds, Instr.sliceBound, asIntOf, hT, hz, hρ _ _ hx, hρ _ _ ho, hρ _ _ ho']; rcases a with _ | ⟨b, o, s⟩ <;> simp [subVx]
  · have h2' : h ≤ cap := by omega
    cases lo with
    | none =>
      subst hlo
      cases hi with
      | none => subst hhi; simp [execOp, Instr.sliceAt, Instr.slice, Instr.sliceBounds, hT, hz, hρ _ _ hx, Addr.add, subVx]
      | some o =>
        obtain ⟨k, ho⟩ := hhi
        simp [execOp, Instr.sliceAt, Instr.slice, Instr.sliceBounds, Instr.sliceBound, asIntOf, hT, hz, hρ _ _ hx, hρ _ _ ho, Addr.add, h2', subVx]
    | some o' =>
      obtain ⟨k', ho'⟩ := hlo
      by_cases hc : cap = l
      · cases hi with
        | none =>
          subst hhi
          simp [execOp, Instr.sliceAt, Instr.slice, Instr.sliceBounds, Instr.sliceBound, asIntOf, hT, hz, hρ _ _ hx, hρ _ _ ho', h1, subVx, hc]
        | some o =>
          obtain ⟨k, ho⟩ := hhi
          have : h ≤ l := by omega
          simp [execOp, Instr.sliceAt, Instr.slice, Instr.sliceBounds, Instr.sliceBound, asIntOf, hT, hz, hρ _ _ hx, hρ _ _ ho, hρ _ _ ho', h1, this, subVx, hc]
      · cases hi with
        | none =>
          subst hhi
          simp [execOp, Instr.sliceAt, Instr.slice, Instr.sliceBounds, Instr.sliceBound, asIntOf, hT, hz, hρ _ _ hx, hρ _ _ ho', h1, add_none, subVx, hc]
        | some o =>
          obtain ⟨k, ho⟩ := hhi
          simp [execOp, Instr.sliceAt, Instr.slice, Instr.sliceBounds, Instr.sliceBound, asIntOf, hT, hz, hρ _ _ hx, hρ _ _ ho, hρ _ _ ho', h1, h2', add_none, subVx, hc]
end rd
def bldVx {α : Type} (l : List α) : SnkS → Value
  | none => .slice none 0 0
  | some (b, cap, _) => .slice (some ⟨b, 0, none⟩) l.length cap
def bldMx {α : Type} (u : TypeId) (enc : α → List Value) (l : List α) : SnkS → Mem
  | none => []
  | some (b, _, tl) => [(b, .cells (cat enc l ++ tl).toArray u (0, 0))]
@[simp] theorem bldMx_none {α : Type} (u : TypeId) (enc : α → List Value) (l : List α) : bldMx u enc l none = [] := rfl
def BldOk {α : Type} (sz : Nat) (enc : α → List Value) (l : List α) : SnkS → Prop
  | none => l = []
  | some (_, cap, tl) => l.length ≤ cap ∧ cap ≤ maxLen ∧ (cat enc l ++ tl).length = cap * sz

section bld
variable {α : Type} {sz : Nat} {enc : α → List Value} {u : TypeId} {l : List α} {st : SnkS}
theorem BldOk.rdx (hk : ∀ x, (enc x).length = sz) (h : BldOk sz enc l st) : Rdx sz enc (bldMx u enc l st) (bldVx l st) l := by
  rcases st with _ | ⟨b, cap, tl⟩
  · obtain rfl : l = [] := h
    exact Rdx.nil
  · exact Rdx.blk (i := 0) hk rfl rfl h.1
theorem bldx_all (Q : Nat → Prop) (h : ∀ b cap tl, st = some (b, cap, tl) → Q b) : ∀ e ∈ bldMx u enc l st, Q e.1 := by
  rcases st with _ | ⟨b, cap, tl⟩
  · intro e he; simp [bldMx] at he
  · intro e he
    simp only [bldMx, List.mem_cons, List.not_mem_nil, or_false] at he
    subst he; exact h b cap tl rfl
theorem BldOk.nil : BldOk sz enc ([] : List α) none := rfl
theorem BldOk.some_of (h : BldOk sz enc l st) (hne : l ≠ []) : ∃ b cap tl, st = some (b, cap, tl) := by
  rcases st with _ | ⟨b, cap, tl⟩
  · exact absurd h hne
  · exact ⟨b, cap, tl, rfl⟩
end bld
section te
variable {P : Program} {rd : Option Nat} {ops : Array Oper} {p : Pst} {q : List Nat} {C : Ctx} {L M : Mem} {k : Nat} {tr : Tr} {E : Env}
variable {d : Nat} {ty : TypeId} {ps : String} {af : Array Edge} {g : Option (Nat × Bool)}
theorem TE_sp (M' : Mem) (hc : ∀ a, cnt a (M' ++ L) ≤ cnt a (M ++ L)) (h : TE P rd ops p q C L tr E M') : TE P rd ops p q C L tr E M := fun a w hr hs => h a w hr ⟨hs.fr, hs.hp.sp hc⟩

/-- append onto such a slice that is built up; it lies at the list's begin. -/
theorem TE_appendX {α : Type} {sz by' : Nat} {enc : α → List Value} {s x : Operand} {sT el : TypeId} {z xv : Value} {l ys : List α} {st : SnkS} {H0 : Mem} (B : Mem) (hk : ∀ x, (enc x).length = sz) (h1 : ∀ x, ∀ v ∈ enc x, v.oneCell' = true) (hsz : Nat.blt 0 sz = true)
    (hM : M = bldMx el enc l st ++ B) (ho : ops[k]? = some ⟨some d, .call ⟨.builtin .append, #[s, x], #[sT, sT]⟩, ty, ps, af, g⟩) (hl : ld ops q k = true) (hg : GOK ops E g) (hd : Nat.blt d C.N = true)
    (hT : P.underlying sT = some (.slice el)) (hI : ElI P el sz by' z) (hzs : Nat.beq z.cells.size sz = true)
    (hs : evalE E s = some (bldVx l st)) (hx : evalE E x = some xv) (hok : BldOk sz enc l st) (hb : Rdx sz enc H0 xv ys) (hb0 : ∀ w, Hp (M ++ L) w → Hp H0 w) (hlen : l.length + ys.length ≤ 137438953472) (hby : Nat.ble by' 1024 = true) (hw : ∀ e ∈ bldMx el enc l st, C.w0.heap.size ≤ e.1 ∨ e.1 ∈ C.X)
    (h : ∀ st', BldOk sz enc (l ++ ys) st' → (∀ e ∈ bldMx el enc (l ++ ys) st', C.w0.heap.size ≤ e.1 ∨ e.1 ∈ C.X) → (st.isSome → st'.isSome) → TE P rd ops p q C L tr ((d, bldVx (l ++ ys) st') :: E) (bldMx el enc (l ++ ys) st' ++ B)) : TE P rd ops p q C L (.op k tr) E M := by
  subst hM
  have hs0 : 0 < sz := by simpa using hsz
  have hbytes : (l.length + ys.length) * by' ≤ 140737488355328 := Nat.le_trans (Nat.mul_le_mul hlen (Nat.le_of_ble_eq_true hby)) (by decide)
  rcases st with _ | ⟨b, cap, tl⟩
  · obtain rfl : l = [] := hok
    by_cases hy : ys = []
    · subst hy
      obtain ⟨a, c, rfl⟩ := hb.shape
      exact TE_l ho hl hg rfl (RD.append0 hT hI hs hx (Nat.zero_le _)) hd (h none rfl (fun e he => by simp [bldMx] at he) (fun h => h))
    · refine TE_appendN (ys := cat enc ys) ho hl hg hd hT hI hzs hsz hs hx (hb.src hk hs0 hy hb0) (cat_len hk ys) (cat_one h1 ys) (List.length_pos_iff.2 hy) (maxLen_ge (by omega)) (by simpa using hbytes) ?_
      intro b' cap' tl' h2 h3 h4 h5
      exact h (some (b', cap', tl')) ⟨h2, h3, h4⟩ (fun e he => by
        simp only [bldMx, List.mem_cons, List.not_mem_nil, or_false] at he
        subst he; exact .inl h5) (fun h => by cases h)
  · have hi : (bldMx el enc l (some (b, cap, tl)) ++ B)[0]? = some (b, .cells (cat enc l ++ tl).toArray el (0, 0)) := rfl
    have hwb := hw (b, .cells (cat enc l ++ tl).toArray el (0, 0)) List.mem_cons_self
    by_cases hy : ys = []
    · subst hy
      obtain ⟨a, c, rfl⟩ := hb.shape
      refine TE_l ho hl hg rfl (RD.append0 hT hI hs hx hok.1) hd ?_
      have h9 := h (some (b, cap, tl)) (by rw [List.append_nil]; exact hok) (by rw [List.append_nil]; exact hw) (fun h => h)
      rw [List.append_nil] at h9
      exact h9
    · refine TE_appendS (i := 0) (n := l.length) (xs := cat enc l) (tl := tl) (ys := cat enc ys) ho hl hg hd hT hI hzs hsz hs hx hi (cat_len hk l) hok.2.2 hok.1 hok.2.1 (hb.src hk hs0 hy hb0) (cat_len hk ys) (cat_one h1 ys) (List.length_pos_iff.2 hy) (maxLen_ge (by omega)) hbytes hwb ?_
      intro b' cap' tl' h2 h3 h4 h5
      rw [← cat_append] at h4
      have h9 := h (some (b', cap', tl')) ⟨by simpa using h2, h3, h4⟩ (fun e he => by
        simp only [bldMx, List.mem_cons, List.not_mem_nil, or_false] at he
        subst he
        rcases h5 with rfl | h5
        · exact hwb
        · exact .inl h5) (fun _ => rfl)
      have e : bldVx (l ++ ys) (some (b', cap', tl')) = .slice (some ⟨b', 0, none⟩) (l.length + ys.length) cap' := by simp [bldVx]
      rw [e] at h9
      rw [← cat_append]
      exact h9

/-- A store that fills a block. -/
theorem TE_putW {T : TypeId} {x y : Operand} {i b n : Nat} {cs : Array Value} {t : TypeId} {v : Value} (ho : ops[k]? = some ⟨none, .store T x y, ty, ps, af, g⟩) (hs : ∀ w, (sizeOf T).run P w = .ok n w) (hg : GOK ops E g)
    (hx : evalE E x = some (.pointer (some ⟨b, 0, none⟩))) (hy : evalE E y = some v) (hn : Nat.beq v.cells.size n = true) (h1 : (v.cells.toList.all fun u => u.oneCell') = true) (hi : M[i]? = some (b, .cells cs t (0, 0))) (hc : Nat.beq cs.size n = true) (hw : C.w0.heap.size ≤ b ∨ b ∈ C.X)
    (h : TE P rd ops p q C L tr E (M.set i (b, .cells v.cells t (0, 0)))) : TE P rd ops p q C L (.op k tr) E M := by
  have hn' := Nat.eq_of_beq_eq_true hn
  have hc' := Nat.eq_of_beq_eq_true hc
  refine TE_put ho hs hg hx hy hn h1 hi (Nat.ble_eq_true_of_le (by omega)) hw ?_
  rw [putL_whole (by rw [Array.length_toList]; omega), Array.toArray_toList]
  exact h

/-- A call that turns the blocks of R; what is told of them and of new ones stands at the list's end. -/
theorem TE_callR {f : Operand} {xs : Array Operand} {ats : Array TypeId} {fid : FuncId} {fs cap : Array Value} {vs : List Value} {post : Value → Mem → Prop} (A R : Mem) (hM : ∀ a, cnt a (A ++ R) ≤ cnt a M) (ho : ops[k]? = some ⟨some d, .call ⟨.value f, xs, ats⟩, ty, ps, af, g⟩) (hl : ld ops q k = true) (hg : GOK ops E g)
    (hen : ∀ args w, (callFunc fid args).run P w = .ok (.enter fid args) w) (hf : evalE E f = some (.func (.func fid) fs cap)) (ha : evalL E xs.toList = some vs) (hd : Nat.blt d C.N = true)
    (hX : ∀ e ∈ R, C.w0.heap.size ≤ e.1 ∨ e.1 ∈ C.X)
    (hc : ∀ w, St C.w0 C.X (A ++ R ++ L) w → Calls P fid (fs.toList ++ vs ++ cap.toList).toArray w (Ret w (keys R) post))
    (h : ∀ v H1, post v H1 → (∀ e ∈ H1, C.w0.heap.size ≤ e.1 ∨ e.1 ∈ C.X) → TE P rd ops p q C L tr ((d, v) :: E) (A ++ H1)) : TE P rd ops p q C L (.op k tr) E M :=
  TE_sp (A ++ R) (fun a => by rw [cnt_append a (A ++ R), cnt_append a M]; have := hM a; omega) (TE_callT A R rfl ho hl hg hen hf ha hd hX hc h)
end te
end Go.Mv

namespace Go.Mv
open Go Go.Sort Go.Proofs
theorem Fr.grow {w w' : World} (h : Fr w [] w') : ∃ q os, w' = Sort.grow (w.drewN q) os := by
  refine ⟨w'.drawn - w.drawn, w'.heap.extract w.heap.size w'.heap.size, ?_⟩
  have h1 : w'.heap = w.heap ++ w'.heap.extract w.heap.size w'.heap.size := by
    apply Array.ext_getElem?
    intro i
    by_cases hi : i < w.heap.size
    · rw [Array.getElem?_append_left hi]; exact h.block i hi (by simp)
    · rw [Array.getElem?_append_right (by omega), Array.getElem?_extract]
      by_cases hi' : i < w'.heap.size
      · rw [if_pos (by omega)]; congr 1; omega
      · rw [if_neg (by omega), Array.getElem?_eq_none (by omega)]
  have h2 := h.drawn
  have h3 := h.os
  have h4 := h.tape
  have h5 := h.output
  cases w with | mk hp tp dr os out =>
  cases w' with | mk hp' tp' dr' os' out' =>
  simp only [Sort.grow, World.drewN] at h1 h2 h3 h4 h5 ⊢
  subst h3; subst h4; subst h5
  simp only [World.mk.injEq, true_and, and_true]
  exact ⟨h1, by omega⟩

section sort
variable {α : Type} [Inhabited α] {enc : α → List Value} {k : Nat}
theorem flat_cat (hk : ∀ x, (enc x).length = k) (d : Array α) (t : Nat) (ht : t < d.size * k) : (cat enc d.toList)[t]? = some (flatK enc k d)[t]! := by
  have hs : 0 < k := by
    rcases Nat.eq_zero_or_pos k with h | h
    · subst h; simp at ht
    · exact h
  have hd : t / k < d.size := by rwa [Nat.div_lt_iff_lt_mul hs]
  have hm := Nat.mod_lt t hs
  have e : t = t / k * k + t % k := by rw [Nat.mul_comm]; exact (Nat.div_add_mod t k).symm
  rw [get_flatK enc k d t ht]
  conv => lhs; rw [e]
  rw [cat_get hk d.toList (t / k) (t % k) d[t / k]! (by rw [getElem!_pos d _ hd]; simp [hd]) hm]
  have : t % k < (enc d[t / k]!).length := by rw [hk]; exact hm
  rw [List.getElem?_eq_getElem this, getElem!_pos (enc d[t / k]!) (t % k) this]
theorem sortK_put (hk : ∀ x, (enc x).length = k) (xs : List α) (d : Array α) (tl : List Value) (h : d.size = xs.length) : putCells id 0 (flatK enc k d) (cat enc xs ++ tl).toArray = (cat enc d.toList ++ tl).toArray := by
  have hl : (cat enc xs).length = d.size * k := by rw [cat_len hk, h]
  have hl2 : (cat enc d.toList).length = d.size * k := by rw [cat_len hk]; simp
  apply Array.ext_getElem?
  intro t
  simp only [putCells, Array.getElem?_mapIdx, List.getElem?_toArray, size_flatK, Nat.zero_le, true_and, Nat.zero_add, Nat.sub_zero, id]
  by_cases ht : t < d.size * k
  · have e1 : t < (cat enc xs ++ tl).length := by rw [List.length_append]; omega
    rw [List.getElem?_eq_getElem e1, Option.map_some, if_pos ht, List.getElem?_append_left (by omega), flat_cat hk d t ht]
  · rw [List.getElem?_append_right (by omega), List.getElem?_append_right (by omega), hl, hl2]
    cases hx : tl[t - d.size * k]? with
    | none => rfl
    | some v => rw [Option.map_some, if_neg ht]
theorem sortK_same (w : World) (blk n : Nat) (d : Array α) (os : Array Obj) {cs : Array Value} {u : TypeId} {fz : Nat × Nat} (hb : w.heap[blk]? = some (.cells cs u fz)) : (sortWorldK enc k w blk 0 n d os).heap[blk]? = some (.cells (putCells id 0 (flatK enc k d) cs) u fz) := by
  have hlt := (Array.getElem?_eq_some_iff.1 hb).1
  simp only [sortWorldK, Sort.grow, putRowK, putRow, mapBlock, Sort.ahead]
  rw [Array.getElem?_append_left (by simpa using hlt), Array.getElem?_modify, if_pos rfl, hb]
  simp [onCells]
theorem sortK_other (w : World) (blk n : Nat) (d : Array α) (os : Array Obj) {j : Nat} (hj : j < w.heap.size) (hne : j ≠ blk) : (sortWorldK enc k w blk 0 n d os).heap[j]? = w.heap[j]? := by
  simp only [sortWorldK, Sort.grow, putRowK, putRow, mapBlock, Sort.ahead]
  rw [Array.getElem?_append_left (by simpa using hj), Array.getElem?_modify, if_neg (fun h => hne h.symm)]
theorem sortK_fr (w : World) (blk n : Nat) (d : Array α) (os : Array Obj) : Fr w [blk] (sortWorldK enc k w blk 0 n d os) :=
  ⟨rfl, rfl, rfl, by simp [sortWorldK, Sort.grow, putRowK, putRow, mapBlock, Sort.ahead], fun j hj hX => sortK_other w blk n d os hj (by simpa using hX), by simp [sortWorldK, Sort.grow, putRowK, putRow, mapBlock, Sort.ahead]⟩

theorem c_sortK {P : Program} {ρ : Shelf.Ren} (L : SlLaysF0.n6 P ρ) (aE : ∀ w, (isAgg (ρ.t 24)).run P w = .ok true w) (zE : ∀ w, (Go.sizeOf (ρ.t 24)).run P w = .ok k w) (hk : ∀ x, (enc x).length = k) (h1 : ∀ x, ∀ v ∈ enc x, v.oneCell' = true) (cf : α → α → Int) (hO : SWO (ltOf cf)) (g : Nat) (cb : Array Value)
    (eg : ∀ args w, (callFunc g args).run P w = .ok (.enter g args) w) (HC : Mem) (hcmp : ∀ x y W, Hp HC W → Calls P g (#[.agg (enc x).toArray, .agg (enc y).toArray] ++ cb) W (Ret W [] fun v _ => v = .int .i64 (cf x y)))
    (blk cap : Nat) (u : TypeId) (tl : List Value) (xs : List α) (w : World) (hw : Hp ((blk, .cells (cat enc xs ++ tl).toArray u (0, 0)) :: HC) w) (hsz : xs.length < 4611686018427387904) :
    Calls P (ρ.f 6) #[.slice (some ⟨blk, 0, none⟩) xs.length cap, .func (.func g) #[] cb] w (Ret w [blk] fun v H1 => v = .tuple #[] ∧ ∃ xs' : List α, xs'.Perm xs ∧ xs'.Pairwise (fun x y => ltOf cf y x = false) ∧ H1 = [(blk, .cells (cat enc xs' ++ tl).toArray u (0, 0))]) := by
  have hb := hw.at_ (blk, .cells (cat enc xs ++ tl).toArray u (0, 0)) List.mem_cons_self
  have hblk : blk < w.heap.size := (Array.getElem?_eq_some_iff.1 hb).1
  have hH : HoldsK enc k w blk 0 xs.toArray := fun t ht => by
    rw [size_flatK] at ht
    have hf := flat_cat hk xs.toArray t ht
    obtain ⟨hlt, _⟩ := List.getElem?_eq_some_iff.1 hf
    refine ⟨?_, frozen_of_row w blk _ _ u hb⟩
    simp only [World.cell?, hb, Nat.zero_add, id]
    have hf' : (cat enc xs)[t]? = some (flatK enc k xs.toArray)[t]! := hf
    have hlt' : t < (cat enc xs).length := hlt
    simp [List.getElem?_append_left hlt', hf']
  have hl : CmpLays P g cb enc k cf blk 0 xs.toArray.size w := fun m os dk hdk x y => by
    refine (hcmp x y _ ⟨fun e he => ?_, (List.pairwise_cons.1 hw.ne).2⟩).mono ?_
    · have hlt := hw.lt (e := e) (List.mem_cons_of_mem _ he)
      rw [sortK_other w blk m dk os hlt (Ne.symm ((List.pairwise_cons.1 hw.ne).1 e he))]
      exact hw.at_ e (List.mem_cons_of_mem _ he)
    · rintro e w' ⟨v, H1, rfl, rfl, hfr, _, _⟩
      obtain ⟨q, os', hq⟩ := hfr.grow
      exact ⟨rfl, q, os', hq⟩
  have hcon := AnyQ.slices_SortFunc L k aE zE enc hk h1 cf hO g cb blk 0 cap xs.toArray w eg hl hH hblk (by simpa using hsz)
  rw [List.size_toArray] at hcon
  refine hcon.mono ?_
  rintro e w' ⟨rfl, d', n, os, hp, hs, rfl⟩
  obtain ⟨hsz', _, hperm⟩ := hp
  have hsz' : d'.size = xs.length := hsz'
  refine ⟨_, [(blk, .cells (cat enc d'.toList ++ tl).toArray u (0, 0))], rfl, ⟨rfl, d'.toList, ?_, ?_, rfl⟩, sortK_fr w blk n d' os, ⟨fun e he => ?_, by simp⟩, fun e he => ?_⟩
  · have h2 : d'.extract 0 xs.length = d' := by rw [← hsz']; simp
    have h3 : xs.toArray.extract 0 xs.length = xs.toArray := by simp
    rw [h2, h3] at hperm
    exact hperm
  · rw [List.pairwise_iff_getElem]
    intro i j hi hj hij
    have := hs i j (Nat.zero_le _) hij (by simpa [hsz'] using hj)
    simp only [Array.length_toList] at hi hj
    rw [getElem!_pos d' i hi, getElem!_pos d' j hj] at this
    simpa using this
  · simp only [List.mem_cons, List.not_mem_nil, or_false] at he
    subst he
    rw [← sortK_put hk xs d' tl hsz']
    exact sortK_same w blk n d' os hb
  · simp only [List.mem_cons, List.not_mem_nil, or_false] at he
    subst he; exact .inl (by simp)
end sort
theorem cat_val {β : Type} {ok : β → Prop} (enc : β → List Value) : ∀ l : List {x // ok x}, cat (fun x : {x // ok x} => enc x.1) l = cat enc (l.map (·.1))
  | [] => rfl
  | x :: l => by simp [cat_val enc l]
theorem val_attach {β : Type} {ok : β → Prop} : ∀ l : List β, (∀ x ∈ l, ok x) → ∃ l' : List {x // ok x}, l'.map (·.1) = l
  | [], _ => ⟨[], rfl⟩
  | x :: l, h => by
    obtain ⟨l', hl⟩ := val_attach l (fun y hy => h y (List.mem_cons_of_mem _ hy))
    exact ⟨⟨x, h x List.mem_cons_self⟩ :: l', by simp [hl]⟩

/-- slices.SortFunc, where the elements are all such as ok says. -/
theorem c_sortS {β : Type} {enc : β → List Value} {k : Nat} (ok : β → Prop) (x0 : β) (hx0 : ok x0) {P : Program} {ρ : Shelf.Ren} (L : SlLaysF0.n6 P ρ) (aE : ∀ w, (isAgg (ρ.t 24)).run P w = .ok true w) (zE : ∀ w, (Go.sizeOf (ρ.t 24)).run P w = .ok k w) (hk : ∀ x, (enc x).length = k) (h1 : ∀ x, ∀ v ∈ enc x, v.oneCell' = true) (cf : β → β → Int)
    (hirr : ∀ x, ¬ cf x x < 0) (htr : ∀ x y z, cf x y < 0 → cf y z < 0 → cf x z < 0) (hnt : ∀ x y z, ¬ cf x y < 0 → ¬ cf y z < 0 → ¬ cf x z < 0) (g : Nat) (cb : Array Value)
    (eg : ∀ args w, (callFunc g args).run P w = .ok (.enter g args) w) (HC : Mem) (hcmp : ∀ x y W, ok x → ok y → Hp HC W → Calls P g (#[.agg (enc x).toArray, .agg (enc y).toArray] ++ cb) W (Ret W [] fun v _ => v = .int .i64 (cf x y)))
    (blk cap : Nat) (u : TypeId) (tl : List Value) (xs : List β) (hxs : ∀ x ∈ xs, ok x) (w : World) (hw : Hp ((blk, .cells (cat enc xs ++ tl).toArray u (0, 0)) :: HC) w) (hsz : xs.length < 4611686018427387904) :
    Calls P (ρ.f 6) #[.slice (some ⟨blk, 0, none⟩) xs.length cap, .func (.func g) #[] cb] w (Ret w [blk] fun v H1 => v = .tuple #[] ∧ ∃ xs' : List β, xs'.Perm xs ∧ xs'.Pairwise (fun x y => ¬ cf y x < 0) ∧ H1 = [(blk, .cells (cat enc xs' ++ tl).toArray u (0, 0))]) := by
  obtain ⟨l, rfl⟩ := val_attach xs hxs
  have : Inhabited {x // ok x} := ⟨⟨x0, hx0⟩⟩
  have hlt : ∀ x y : {x // ok x}, ltOf (fun x y : {x // ok x} => cf x.1 y.1) x y = decide (cf x.1 y.1 < 0) := fun _ _ => rfl
  have hO : SWO (ltOf fun x y : {x // ok x} => cf x.1 y.1) := ⟨fun x => by rw [hlt]; simpa using hirr x.1, fun x y z h2 h3 => by rw [hlt] at *; simp only [decide_eq_true_eq] at *; exact htr _ _ _ h2 h3, fun x y z h2 h3 => by rw [hlt] at *; simp only [decide_eq_false_iff_not] at *; exact hnt _ _ _ h2 h3⟩
  have h := c_sortK (enc := fun x : {x // ok x} => enc x.1) L aE zE (fun x => hk x.1) (fun x => h1 x.1) (fun x y => cf x.1 y.1) hO g cb eg HC (fun x y W hW => hcmp x.1 y.1 W x.2 y.2 hW) blk cap u tl l w (by rw [cat_val]; exact hw) (by simpa using hsz)
  rw [List.length_map]
  refine h.mono ?_
  rintro e w' ⟨v, H1, rfl, ⟨rfl, xs', hp, hs, rfl⟩, hfr, hH, hn⟩
  refine ⟨_, _, rfl, ⟨rfl, xs'.map (·.1), hp.map _, ?_, rfl⟩, hfr, ?_, ?_⟩
  · rw [List.pairwise_map]
    refine hs.imp ?_
    intro x y h2
    rw [hlt] at h2; simpa using h2
  · rw [← cat_val]; exact hH
  · rw [← cat_val]; exact hn

/-- .. of a slice that was built up. -/
theorem c_sortB {β : Type} {enc : β → List Value} {k : Nat} (ok : β → Prop) (x0 : β) (hx0 : ok x0) {P : Program} {ρ : Shelf.Ren} (L : SlLaysF0.n6 P ρ) (aE : ∀ w, (isAgg (ρ.t 24)).run P w = .ok true w) (zE : ∀ w, (Go.sizeOf (ρ.t 24)).run P w = .ok k w) (hk : ∀ x, (enc x).length = k) (h1 : ∀ x, ∀ v ∈ enc x, v.oneCell' = true) (cf : β → β → Int)
    (hirr : ∀ x, ¬ cf x x < 0) (htr : ∀ x y z, cf x y < 0 → cf y z < 0 → cf x z < 0) (hnt : ∀ x y z, ¬ cf x y < 0 → ¬ cf y z < 0 → ¬ cf x z < 0) (g : Nat) (cb : Array Value)
    (eg : ∀ args w, (callFunc g args).run P w = .ok (.enter g args) w) (HC : Mem) (hcmp : ∀ x y W, ok x → ok y → Hp HC W → Calls P g (#[.agg (enc x).toArray, .agg (enc y).toArray] ++ cb) W (Ret W [] fun v _ => v = .int .i64 (cf x y)))
    (u : TypeId) (xs : List β) (st : SnkS) (hok : BldOk k enc xs st) (hxs : ∀ x ∈ xs, ok x) (w : World) (hw : Hp (bldMx u enc xs st ++ HC) w) (hsz : xs.length ≤ 1000000) :
    Calls P (ρ.f 6) #[bldVx xs st, .func (.func g) #[] cb] w (Ret w (keys (bldMx u enc xs st)) fun v H1 => v = .tuple #[] ∧ ∃ xs' : List β, xs'.Perm xs ∧ xs'.Pairwise (fun x y => ¬ cf y x < 0) ∧ H1 = bldMx u enc xs' st ∧ bldVx xs' st = bldVx xs st ∧ BldOk k enc xs' st) := by
  rcases st with _ | ⟨b, cap, tl⟩
  · obtain rfl : xs = [] := hok
    refine (AnyF.slices_SortFunc_none L none 0 (.func (.func g) #[] cb) w).mono ?_
    rintro e w' ⟨rfl, rfl⟩
    exact ⟨_, [], rfl, ⟨rfl, [], .nil, .nil, rfl, rfl, rfl⟩, Fr.refl _ _, Hp.nil _, by simp⟩
  · refine (c_sortS ok x0 hx0 L aE zE hk h1 cf hirr htr hnt g cb eg HC hcmp b cap u tl xs hxs w hw (by omega)).mono ?_
    rintro e w' ⟨v, H1, rfl, ⟨rfl, xs', hp, hs, rfl⟩, hfr, hH, hn⟩
    refine ⟨_, _, rfl, ⟨rfl, xs', hp, hs, rfl, by simp [bldVx, hp.length_eq], hok.1 |> fun h => ⟨by rw [hp.length_eq]; exact h, hok.2.1, ?_⟩⟩, hfr, hH, hn⟩
    have := hok.2.2
    rw [List.length_append, cat_len hk] at this ⊢
    rw [hp.length_eq]; exact this
end Go.Mv
