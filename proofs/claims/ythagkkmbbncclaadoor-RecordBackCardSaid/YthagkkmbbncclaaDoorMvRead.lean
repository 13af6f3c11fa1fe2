import Derived.Test.YthagkkmbbncclaaDoorMvDefer
import Derived.Laws.BitsAllLaws
import Derived.KernelRfl
namespace Go.Mv
open Go

theorem allC {Q : Nat → Prop} {a : Nat} {o : Obj} {H : Mem} (h1 : Q a) (h2 : ∀ e ∈ H, Q e.1) : ∀ e ∈ (a, o) :: H, Q e.1 := fun e he => by
  rcases List.mem_cons.1 he with rfl | he
  · exact h1
  · exact h2 e he
theorem allN {Q : Nat → Prop} : ∀ e ∈ ([] : Mem), Q e.1 := fun e he => by simp at he
theorem allA {Q : Nat → Prop} {A B : Mem} (h1 : ∀ e ∈ A, Q e.1) (h2 : ∀ e ∈ B, Q e.1) : ∀ e ∈ A ++ B, Q e.1 := fun e he => (List.mem_append.1 he).elim (h1 e) (h2 e)

theorem get_putL : ∀ (vs : List Value) (cs : Array Value) (off i : Nat), off + vs.length ≤ cs.size → (putL cs off vs)[i]? = if off ≤ i ∧ i < off + vs.length then vs[i - off]? else cs[i]?
  | [], cs, off, i, _ => by
    rw [if_neg (by simp only [List.length_nil]; omega)]; rfl
  | v :: r, cs, off, i, h => by
    simp only [List.length_cons] at h
    rw [putL, get_putL r _ (off + 1) i (by rw [Array.size_setIfInBounds]; omega)]
    by_cases h1 : off + 1 ≤ i ∧ i < off + 1 + r.length
    · rw [if_pos h1, if_pos (by simp only [List.length_cons]; omega), show i - off = (i - (off + 1)) + 1 from by omega, List.getElem?_cons_succ]
    · rw [if_neg h1]
      by_cases h2 : off = i
      · subst h2
        rw [Array.getElem?_setIfInBounds_self_of_lt (by omega), if_pos (by simp only [List.length_cons]; omega), Nat.sub_self]; rfl
      · rw [Array.getElem?_setIfInBounds_ne h2, if_neg (by simp only [List.length_cons]; omega)]
theorem putL_whole {cs : Array Value} {vs : List Value} (h : vs.length = cs.size) : putL cs 0 vs = vs.toArray := by
  apply Array.ext_getElem?
  intro i
  rw [get_putL vs cs 0 i (by omega)]
  by_cases hi : i < vs.length
  · rw [if_pos (by omega)]; simp
  · rw [if_neg (by omega), Array.getElem?_eq_none (by omega), Array.getElem?_eq_none (by simp; omega)]
/-- What was stored whole is read whole. -/
theorem put_agg {cs a : Array Value} {v : Value} {n : Nat} (hv : v.cells = a) (hv' : Value.agg a = v) (h1 : a.size = n) (h2 : cs.size = n) : Value.agg ((putL cs 0 v.cells.toList).extract 0 (0 + n)) = v := by
  subst hv
  rw [putL_whole (by rw [h2, Array.length_toList, h1])]
  simp [← h1, hv']
theorem put_vec (f g : Nat → Int) : Value.agg ((putL (vecV f).cells 0 (vecV g).cells.toList).extract 0 (0 + 16)) = vecV g := put_agg rfl rfl rfl rfl

section rd
variable {P : Program} {ty : TypeId} {E : Env} {L : Mem} {x y : Operand} {T U : TypeId}
theorem RD.orU {a b : Nat} (hx : evalE E x = some (.int .u64 (a : Int))) (hy : evalE E y = some (.int .u64 (b : Int))) (ha : a < 18446744073709551616) (hb : b < 18446744073709551616) : RD P (.binOp .or T x y U) ty E L (.int .u64 ((a ||| b : Nat) : Int)) :=
  RD.bin .or (fun w => by simp [eqGuard, binOp, intBits_or, u64_or_nat a b ha hb]) hx hy
end rd

theorem pow128 (k : Nat) : (128 : Nat) ^ k = 2 ^ (7 * k) := by rw [Nat.pow_mul]
theorem rem128 (c : Nat) : Value.int .u8 ((c : Int).tmod 128) = .int .u8 ((c % 128 : Nat) : Int) := by
  rw [Int.tmod_eq_emod_of_nonneg (by omega)]; simp
theorem shl_low {m k : Nat} (hk : k ≤ 9) (h : m * 128 ^ k < 18446744073709551616) : Value.int .u64 (IntKind.u64.wrap ((m : Int) * 2 ^ min (7 * (k : Int)).toNat IntKind.u64.bits)) = .int .u64 ((m * 128 ^ k : Nat) : Int) := by
  have e1 : (7 * (k : Int)).toNat = 7 * k := by omega
  have e2 : min (7 * k) IntKind.u64.bits = 7 * k := Nat.min_eq_left (by show 7 * k ≤ 64; omega)
  rw [e1, e2, u64_wrap]
  have e3 : (m : Int) * 2 ^ (7 * k) = ((m * 128 ^ k : Nat) : Int) := by rw [pow128]; push_cast; rfl
  rw [e3, Int.emod_eq_of_lt (by omega) (by omega)]
theorem or_low {a m k : Nat} (h : a < 128 ^ k) : a ||| m * 128 ^ k = a + m * 128 ^ k := by
  rw [pow128] at h ⊢
  rw [Nat.or_comm, Nat.mul_comm m, ← Nat.two_pow_add_eq_or_of_lt h, Nat.add_comm]
theorem low_lt {c k : Nat} (hk : k ≤ 9) (h : ¬ ((k = 9 ∧ (c % 128 > 1 ∨ ¬ c < 128)) ∨ (c < 128 ∧ c % 128 = 0 ∧ 0 < k))) : c % 128 * 128 ^ k < 18446744073709551616 := by
  by_cases h9 : k = 9
  · subst h9
    have h1 : c % 128 ≤ 1 := by omega
    have h2 : c % 128 * 128 ^ 9 ≤ 1 * 128 ^ 9 := Nat.mul_le_mul_right _ h1
    have h3 : (128 : Nat) ^ 9 = 9223372036854775808 := by decide
    omega
  · have h1 : (128 : Nat) ^ k ≤ 128 ^ 8 := Nat.pow_le_pow_right (by decide) (by omega)
    have h2 : c % 128 * 128 ^ k ≤ 127 * 128 ^ 8 := Nat.mul_le_mul (by omega) h1
    have h3 : 127 * (128 : Nat) ^ 8 < 18446744073709551616 := by decide
    omega
theorem acc_lt {c k a : Nat} (ha : a < 128 ^ k) : a + c % 128 * 128 ^ k < 128 ^ (k + 1) := by
  have h2 : c % 128 * 128 ^ k ≤ 127 * 128 ^ k := Nat.mul_le_mul_right _ (by omega)
  rw [Nat.pow_succ]; omega
theorem acc_lt64 {k a : Nat} (hk : k ≤ 9) (ha : a < 128 ^ k) : a < 18446744073709551616 := by
  have h1 : (128 : Nat) ^ k ≤ 128 ^ 9 := Nat.pow_le_pow_right (by decide) hk
  have h3 : (128 : Nat) ^ 9 < 18446744073709551616 := by decide
  omega

theorem pn_perm {C : Ctx} {K : Act → World → Prop} {E : Env} {H : Mem} (H' : Mem) (hp : ∀ w, Hp H w → Hp H' w) (h : PN C K E H') : PN C K E H := fun a w hr hs => h a w hr ⟨hs.fr, hp w hs.hp⟩

/-- A region that draws its order; the list's end, which is not told, may be turned. -/
theorem pn_drawU {P : Program} {rd : Option Nat} {p : Pst} {C : Ctx} {E : Env} {H : Mem} {ops : Array Oper} {id : Nat} (q : List Nat) (is js : List Nat) {n : Nat} (A T : Mem) (hH : H = A ++ T) (hn : ops.size = n) (hm : P.follows .mixedOrders = true) (hc : chk ops (ld ops q) (Region.before ops) = true)
    (h1 : ((is ++ js).all fun i => Nat.blt i A.length) = true) (h2 : nodupN (is ++ js) = true) (h : TE P rd ops p q C (pick A js) (line 0 n) E (pick A is ++ T)) : PN C (WP P rd (.region id ops true) p) E H := fun a w hr hs => by
  have hp : Hp (pick A (is ++ js) ++ T) w := (hH ▸ hs.hp).pickT h1 h2
  have happ : ∀ (l : List Nat), pick A (l ++ js) = pick A l ++ pick A js := fun l => by induction l with
    | nil => rfl
    | cons i l ih => simp [pick, ih]
  rw [happ, List.append_assoc] at hp
  have hp2 : Hp ((pick A is ++ T) ++ pick A js) w := hp.perm (by rw [List.append_assoc]; exact List.Perm.append_left _ List.perm_append_comm)
  refine wp_draw hm hc hp2.right.drew ?_
  rw [hn, List.range_eq_range', ← TT_line]
  exact h a w.drew hr ⟨hs.fr.drew, hp2.drew⟩

theorem put_rec_dot (q : Rec) (s c : Int) : putL (recV q).cells 0 (dotV s c).cells.toList = (recV { q with s := s, c := c }).cells := by kernel_rfl
theorem put_rec_ctx (q : Rec) (f : Nat → Int) : putL (recV q).cells 2 (vecV f).cells.toList = (recV { q with ctx := f }).cells := by kernel_rfl
theorem put_rec_ref (q : Rec) (s : ByteArray) : (recV q).cells.setIfInBounds 18 (.string s) = (recV { q with ref := s }).cells := by kernel_rfl
theorem put_rec_has (q : Rec) (b : Bool) : (recV q).cells.setIfInBounds 19 (.bool b) = (recV { q with has := b }).cells := by kernel_rfl

section te
variable {P : Program} {rd : Option Nat} {ops : Array Oper} {p : Pst} {q : List Nat} {C : Ctx} {L M : Mem} {k : Nat} {tr : Tr} {E : Env}
variable {d : Nat} {ty : TypeId} {ps : String} {af : Array Edge} {g : Option (Nat × Bool)}
theorem TE_yieldT {f : Operand} {xs : Array Operand} {ats : Array TypeId} {l : Nat} {vs : List Value} {post : Value → Mem → Prop} (A R : Mem) (hM : M = A ++ R) (ho : ops[k]? = some ⟨some d, .call ⟨.value f, xs, ats⟩, ty, ps, af, g⟩) (hl : ld ops q k = true) (hg : GOK ops E g)
    (hf : evalE E f = some (.func (.yield l) #[] #[])) (ha : evalL E xs.toList = some vs) (hd : Nat.blt d C.N = true) (hX : ∀ e ∈ R, C.w0.heap.size ≤ e.1 ∨ e.1 ∈ C.X)
    (hc : ∀ w, St C.w0 C.X (M ++ L) w → Yd P l vs w (Ret w (keys R) post))
    (h : ∀ v H1, post v H1 → (∀ e ∈ H1, C.w0.heap.size ≤ e.1 ∨ e.1 ∈ C.X) → TE P rd ops p q C L tr ((d, v) :: E) (A ++ H1)) : TE P rd ops p q C L (.op k tr) E M :=
  TE_yield A.length ho hl hg hf ha hd (by rw [hM]; exact List.take_left) (by rw [hM]; exact List.drop_left) hX hc h
theorem set_same {M : Mem} {i : Nat} {x : Nat × Obj} (h : M[i]? = some x) : M.set i x = M := by
  apply List.ext_getElem?
  intro j
  by_cases hj : i = j
  · subst hj
    obtain ⟨hlt, hg⟩ := List.getElem?_eq_some_iff.1 h
    simp [hlt, hg]
  · simp [hj]
/-- append of bytes, none perhaps, onto bytes that are known whole. -/
theorem TE_appendB {s x : Operand} {sT el : TypeId} {z xv : Value} {i b n cap : Nat} {l ys : List UInt8} {tl : List Value} (ho : ops[k]? = some ⟨some d, .call ⟨.builtin .append, #[s, x], #[sT, sT]⟩, ty, ps, af, g⟩) (hl : ld ops q k = true) (hg : GOK ops E g) (hd : Nat.blt d C.N = true)
    (hT : P.underlying sT = some (.slice el)) (hI : ElI P el 1 1 z) (hzs : Nat.beq z.cells.size 1 = true)
    (hs : evalE E s = some (.slice (some ⟨b, 0, none⟩) n cap)) (hx : evalE E x = some xv) (hi : M[i]? = some (b, .cells (bcells l ++ tl).toArray el (0, 0))) (hn : n = l.length)
    (hok : n ≤ cap ∧ cap ≤ maxLen ∧ (bcells l ++ tl).length = cap * 1) (hb : BytesIn (M ++ L) xv ys) (hlen : n + ys.length ≤ 140737488355328) (hw : C.w0.heap.size ≤ b ∨ b ∈ C.X)
    (h : ∀ b' cap' tl', n + ys.length ≤ cap' ∧ cap' ≤ maxLen ∧ (bcells (l ++ ys) ++ tl').length = cap' * 1 → (b' = b ∨ C.w0.heap.size ≤ b') →
      TE P rd ops p q C L tr ((d, .slice (some ⟨b', 0, none⟩) (n + ys.length) cap') :: E) (M.set i (b', .cells (bcells (l ++ ys) ++ tl').toArray el (0, 0)))) : TE P rd ops p q C L (.op k tr) E M := by
  subst hn
  by_cases hy : ys = []
  · subst hy
    obtain ⟨a, c, rfl, _⟩ := hb
    refine TE_l ho hl hg rfl (RD.append0 hT hI hs hx hok.1) hd ?_
    have := h b cap tl (by simpa using hok) (.inl rfl)
    rw [List.append_nil, set_same hi] at this
    exact this
  · have hb0 := hb
    obtain ⟨a, c, rfl, _⟩ := hb
    refine TE_appendS (i := i) (n := l.length) (xs := bcells l) (tl := tl) (ys := bcells ys) ho hl hg hd hT hI hzs rfl hs hx hi (by simp) hok.2.2 hok.1 hok.2.1 (hb0.src hy (fun _ hw => hw)) (by simp) (bcells_one _) (List.length_pos_iff.2 hy) (maxLen_ge (by omega)) (by omega) hw ?_
    intro b' cap' tl' h1 h2 h3 h4
    rw [← bcells_append] at h3 ⊢
    exact h b' cap' tl' ⟨h1, h2, h3⟩ h4
end te
end Go.Mv
