import Derived.Test.YtcmnmigcalibdaaGreatDoorGab
import Derived.Laws.BitsAllLaws
import Derived.KernelRfl
import Derived.Lib.SplitLaws
namespace Go.Mv
open Go
/-- A slice without room. -/
def NilS (v : Value) : Prop := ∃ a, v = .slice a 0 0
/-- Bytes that can be read, at a slice that can be parted. -/
def Rdb (H : Mem) (v : Value) (ys : List UInt8) : Prop :=
  (NilS v ∧ ys = []) ∨ ∃ b off cap, v = .slice (some ⟨b, off, none⟩) ys.length cap ∧ ys.length ≤ cap ∧ ∀ w, Hp H w → ∀ j u, (bcells ys)[j]? = some u → w.cell? ⟨b, off + j, none⟩ = some u

def subV (l h : Nat) : Value → Value
  | .slice (some ⟨b, off, s⟩) _ cap => .slice (some ⟨b, if cap = l then off else off + l, if cap = l then s else none⟩) (h - l) (cap - l)
  | v => v

theorem Rdb.mono {H H' : Mem} {v : Value} {ys : List UInt8} (h : Rdb H v ys) (hs : ∀ w, Hp H' w → Hp H w) : Rdb H' v ys := by
  rcases h with h | ⟨b, off, cap, h1, h2, h3⟩
  · exact .inl h
  · exact .inr ⟨b, off, cap, h1, h2, fun w hw => h3 w (hs w hw)⟩

theorem Rdb.sub {H : Mem} {v : Value} {ys : List UInt8} (h : Rdb H v ys) {l r : Nat} (h1 : l ≤ r) (h2 : r ≤ ys.length) : Rdb H (subV l r v) ((ys.take r).drop l) := by
  rcases h with ⟨⟨a, rfl⟩, rfl⟩ | ⟨b, off, cap, rfl, h3, h4⟩
  · have : r = 0 := by simpa using h2
    subst this
    have : l = 0 := by omega
    subst this
    refine .inl ⟨⟨a, ?_⟩, by simp⟩
    rcases a with _ | ⟨b, o, s⟩ <;> simp [subV]
  · refine .inr ⟨b, if cap = l then off else off + l, cap - l, ?_, ?_, ?_⟩
    · simp only [subV, List.length_drop, List.length_take, Nat.min_eq_left h2, ite_self]
    · simp only [List.length_drop, List.length_take]; omega
    · intro w hw j u hj
      obtain ⟨hlt, _⟩ := List.getElem?_eq_some_iff.1 hj
      simp only [length_bcells, List.length_drop, List.length_take] at hlt
      have hne : ¬ cap = l := by omega
      rw [if_neg hne, Nat.add_assoc]
      refine h4 w hw (l + j) u ?_
      rw [← hj, bcells_get, bcells_get, List.getElem?_drop, List.getElem?_take_of_lt (by omega)]

theorem Rdb.cut {H : Mem} {v : Value} {ys : List UInt8} (h : Rdb H v ys) {l : Nat} (h1 : l ≤ ys.length) : Rdb H (subV l ys.length v) (ys.drop l) := by
  have := h.sub h1 (Nat.le_refl _); rwa [List.take_length] at this

theorem Rdb.bytes {H : Mem} {v : Value} {ys : List UInt8} (h : Rdb H v ys) : BytesIn H v ys := by
  rcases h with ⟨⟨a, rfl⟩, rfl⟩ | ⟨b, off, cap, rfl, h3, h4⟩
  · exact ⟨a, 0, rfl, fun hn => absurd rfl hn⟩
  · refine ⟨_, cap, rfl, fun _ => ⟨_, rfl, fun w hw j u hj => ?_⟩⟩
    have hadd : (⟨b, off, none⟩ : Addr).add j = ⟨b, off + j, none⟩ := by
      unfold Addr.add; split
      · rename_i h; simp
      · rfl
    rw [hadd]; exact h4 w hw j u hj

theorem RetB.rdb {u : TypeId} {v : Value} {H1 : Mem} {ys : List UInt8} (h : RetB u v H1 ys) : Rdb H1 v ys := by
  rcases h with ⟨b, cap, tl, rfl, rfl, h1, h2, h3⟩ | ⟨rfl, rfl, rfl⟩
  · refine .inr ⟨b, 0, cap, rfl, h1, fun w hw j u hj => ?_⟩
    rw [Nat.zero_add, cell_of hw (i := 0) (off := j) rfl]
    obtain ⟨hlt, _⟩ := List.getElem?_eq_some_iff.1 hj
    simp [List.getElem?_append_left hlt, hj]
  · exact .inl ⟨⟨_, rfl⟩, rfl⟩

theorem Rdb.cons {H : Mem} {v : Value} {c : UInt8} {r : List UInt8} (h : Rdb H v (c :: r)) : ∃ b off cap, v = .slice (some ⟨b, off, none⟩) (r.length + 1) cap ∧ r.length + 1 ≤ cap ∧ ∀ w, Hp H w → w.cell? ⟨b, off, none⟩ = some (bcell c) := by
  rcases h with ⟨_, h⟩ | ⟨b, off, cap, rfl, h3, h4⟩
  · cases h
  · exact ⟨b, off, cap, rfl, h3, fun w hw => h4 w hw 0 _ rfl⟩

theorem Rdb.shape {H : Mem} {v : Value} {ys : List UInt8} (h : Rdb H v ys) : ∃ a c, v = .slice a ys.length c := by
  rcases h with ⟨⟨a, rfl⟩, rfl⟩ | ⟨b, off, cap, rfl, h3, h4⟩
  · exact ⟨_, _, rfl⟩
  · exact ⟨_, _, rfl⟩

theorem Rdb.at {H : Mem} {v : Value} {ys : List UInt8} (h : Rdb H v ys) {i : Nat} {c : UInt8} (hi : ys[i]? = some c) : ∃ b off cap, v = .slice (some ⟨b, off, none⟩) ys.length cap ∧ ys.length ≤ cap ∧ ∀ w, Hp H w → w.cell? ⟨b, off + i, none⟩ = some (bcell c) := by
  rcases h with ⟨_, rfl⟩ | ⟨b, off, cap, rfl, h3, h4⟩
  · simp at hi
  · exact ⟨b, off, cap, rfl, h3, fun w hw => h4 w hw i _ (by rw [bcells_get, hi]; rfl)⟩

section rd
variable {P : Program} {ty : TypeId} {E : Env} {L : Mem} {v u : Value} {x y z : Operand} {T U : TypeId}
theorem RD.lenR {H : Mem} {ys : List UInt8} {e : TypeId} (hT : ∀ w, (underlying T).run P w = .ok (.slice e) w) (hx : evalE E x = some v) (hb : Rdb H v ys) : RD P (.call ⟨.builtin .len, #[x], #[T]⟩) ty E L (.int .i64 ys.length) := by
  obtain ⟨a, c, rfl⟩ := hb.shape
  exact RD.len_slice hT hx

/-- A cell that is known to be there. -/
theorem RD.loadC {b off : Nat} (ha : ∀ w, (isAgg T).run P w = .ok false w) (hx : evalE E x = some (.pointer (some ⟨b, off, none⟩))) (hc : ∀ w, Hp L w → w.cell? ⟨b, off, none⟩ = some v) : RD P (.load T x) ty E L v := fun ρ w _ _ _ _ hρ hL => by
  simp [execOp, hρ _ _ hx, Instr.loadAt, Instr.sureAddr, loadVar, ha, hc w hL]

theorem RD.sliceR {H : Mem} {ys : List UInt8} {el : TypeId} {lo hi : Option Operand} {l h : Nat} (hT : ∀ w, (underlying T).run P w = .ok (.slice el) w) (hz : ∀ w, (sizeOf el).run P w = .ok 1 w) (hx : evalE E x = some v) (hb : Rdb H v ys)
    (hlo : match lo with | none => l = 0 | some o => ∃ k, evalE E o = some (.int k l)) (hhi : match hi with | none => h = ys.length | some o => ∃ k, evalE E o = some (.int k h)) (h1 : l ≤ h) (h2 : h ≤ ys.length) :
    RD P (.slice T x lo hi none) ty E L (subV l h v) := fun ρ w _ _ _ _ hρ _ => by
  have hadd : ∀ b off, (⟨b, off, none⟩ : Addr).add l = ⟨b, off + l, none⟩ := fun b off => by
    unfold Addr.add; split
    · simp
    · rfl
  rcases hb with ⟨⟨a, rfl⟩, rfl⟩ | ⟨b, off, cap, rfl, h3, h4⟩
  · have h0 : h = 0 := by simpa using h2
    subst h0
    have l0 : l = 0 := by omega
    subst l0
    cases lo with
    | none =>
      cases hi with
      | none => simp [execOp, Instr.sliceAt, Instr.slice, Instr.sliceBounds, hT, hz, hρ _ _ hx]; rcases a with _ | ⟨b, o, s⟩ <;> simp [subV]
      | some o =>
        obtain ⟨k, ho⟩ := hhi
        simp [execOp, Instr.sliceAt, Instr.slice, Instr.sliceBounds, Instr.sliceBound, asIntOf, hT, hz, hρ _ _ hx, hρ _ _ ho]; rcases a with _ | ⟨b, o, s⟩ <;> simp [subV]
    | some o' =>
      obtain ⟨k', ho'⟩ := hlo
      cases hi with
      | none => simp [execOp, Instr.sliceAt, Instr.slice, Instr.sliceBounds, Instr.sliceBound, asIntOf, hT, hz, hρ _ _ hx, hρ _ _ ho']; rcases a with _ | ⟨b, o, s⟩ <;> simp [subV]
      | some o =>
        obtain ⟨k, ho⟩ := hhi
        simp [execOp, Instr.sliceAt, Instr.slice, Instr.sliceBounds, Instr.sliceBound, asIntOf, hT, hz, hρ _ _ hx, hρ _ _ ho, hρ _ _ ho']; rcases a with _ | ⟨b, o, s⟩ <;> simp [subV]
  · have h2' : h ≤ cap := by omega
    cases lo with
    | none =>
      subst hlo
      cases hi with
      | none => subst hhi; simp [execOp, Instr.sliceAt, Instr.slice, Instr.sliceBounds, hT, hz, hρ _ _ hx, Addr.add, subV]
      | some o =>
        obtain ⟨k, ho⟩ := hhi
        simp [execOp, Instr.sliceAt, Instr.slice, Instr.sliceBounds, Instr.sliceBound, asIntOf, hT, hz, hρ _ _ hx, hρ _ _ ho, Addr.add, h2', subV]
    | some o' =>
      obtain ⟨k', ho'⟩ := hlo
      by_cases hc : cap = l
      · cases hi with
        | none =>
          subst hhi
          simp [execOp, Instr.sliceAt, Instr.slice, Instr.sliceBounds, Instr.sliceBound, asIntOf, hT, hz, hρ _ _ hx, hρ _ _ ho', h1, subV, hc]
        | some o =>
          obtain ⟨k, ho⟩ := hhi
          have : h ≤ l := by omega
          simp [execOp, Instr.sliceAt, Instr.slice, Instr.sliceBounds, Instr.sliceBound, asIntOf, hT, hz, hρ _ _ hx, hρ _ _ ho, hρ _ _ ho', h1, this, subV, hc]
      · cases hi with
        | none =>
          subst hhi
          simp [execOp, Instr.sliceAt, Instr.slice, Instr.sliceBounds, Instr.sliceBound, asIntOf, hT, hz, hρ _ _ hx, hρ _ _ ho', h1, hadd, subV, hc]
        | some o =>
          obtain ⟨k, ho⟩ := hhi
          simp [execOp, Instr.sliceAt, Instr.slice, Instr.sliceBounds, Instr.sliceBound, asIntOf, hT, hz, hρ _ _ hx, hρ _ _ ho, hρ _ _ ho', h1, h2', hadd, subV, hc]
end rd
inductive NumR where
  | ok (n : Nat) (rest : List UInt8)
  | short
  | form

/-- 'k' bytes were read; they come to 'acc'. -/
def decL : List UInt8 → Nat → Nat → NumR
  | [], _, _ => .short
  | c :: r, k, acc =>
    if (k = 9 ∧ (c.toNat % 128 > 1 ∨ ¬ c.toNat < 128)) ∨ (c.toNat < 128 ∧ c.toNat % 128 = 0 ∧ 0 < k) then .form
    else if c.toNat < 128 then .ok (acc + c.toNat % 128 * 128 ^ k) r
    else decL r (k + 1) (acc + c.toNat % 128 * 128 ^ k)

def numR (ys : List UInt8) : NumR := decL ys 0 0

/-- What reading comes to: what was read and what is left, or an error's number. -/
inductive Dr (α : Type) where
  | ok (x : α) (r : List UInt8)
  | err (e : Int)

def numD (most : Nat) (ys : List UInt8) : Dr Nat :=
  match numR ys with
  | .short => .err 10
  | .form => .err 11
  | .ok n r => if most < n then .err 12 else .ok n r

theorem decL_ok : ∀ (ys : List UInt8) (k acc n : Nat) (r : List UInt8), k ≤ 9 → acc < 128 ^ k → decL ys k acc = .ok n r → ∃ m, n = acc + m * 128 ^ k ∧ (0 < k → 0 < m) ∧ ys = lebL m ++ r ∧ m * 128 ^ k < 18446744073709551616
  | [], k, acc, n, r, _, _, h => by simp [decL] at h
  | c :: ys, k, acc, n, r, hk, ha, h => by
    have hc : c.toNat < 256 := c.toNat_lt
    have hp : 0 < 128 ^ k := Nat.pow_pos (by decide)
    have h9 : k ≤ 8 → 128 ^ k * 128 ≤ 9223372036854775808 := fun h => by
      have : 128 ^ (k + 1) ≤ 128 ^ 9 := Nat.pow_le_pow_right (by decide) (by omega)
      rw [Nat.pow_succ] at this; exact this
    simp only [decL] at h
    split at h
    · cases h
    · rename_i hform
      split at h
      · rename_i hw
        simp only [NumR.ok.injEq] at h
        obtain ⟨rfl, rfl⟩ := h
        have hm : c.toNat % 128 = c.toNat := Nat.mod_eq_of_lt hw
        refine ⟨c.toNat, by rw [hm], fun h0 => ?_, ?_, ?_⟩
        · rw [hm] at hform; omega
        · rw [lebL_small hw, UInt8.ofNat_toNat]; rfl
        · by_cases h8 : k ≤ 8
          · have := h9 h8
            have h2 : c.toNat * 128 ^ k ≤ 127 * 128 ^ k := Nat.mul_le_mul_right _ (by omega)
            omega
          · have : k = 9 := by omega
            subst this
            have : c.toNat ≤ 1 := by rw [hm] at hform; omega
            have h2 : c.toNat * 128 ^ 9 ≤ 1 * 128 ^ 9 := Nat.mul_le_mul_right _ this
            have h3 : (128 : Nat) ^ 9 = 9223372036854775808 := by decide
            omega
      · rename_i hw
        have hk8 : k ≤ 8 := by omega
        have ha' : acc + c.toNat % 128 * 128 ^ k < 128 ^ (k + 1) := by
          have h2 : c.toNat % 128 * 128 ^ k ≤ 127 * 128 ^ k := Nat.mul_le_mul_right _ (by omega)
          rw [Nat.pow_succ]; omega
        obtain ⟨m, rfl, hm0, rfl, hb⟩ := decL_ok ys (k + 1) _ n r (by omega) ha' h
        refine ⟨m * 128 + c.toNat % 128, ?_, fun _ => by have := hm0 (by omega); omega, ?_, ?_⟩
        · rw [Nat.pow_succ, Nat.add_mul, Nat.mul_comm (128 ^ k) 128, ← Nat.mul_assoc]; omega
        · have h1 : ¬ m * 128 + c.toNat % 128 < 128 := by have := hm0 (by omega); omega
          rw [lebL_big h1]
          have e1 : (m * 128 + c.toNat % 128) / 128 = m := by omega
          have e2 : (m * 128 + c.toNat % 128) % 128 + 128 = c.toNat := by omega
          rw [e1, e2, UInt8.ofNat_toNat]; rfl
        · have h3 : (m * 128 + c.toNat % 128) * 128 ^ k < (m + 1) * 128 ^ (k + 1) := by
            rw [Nat.pow_succ, Nat.mul_comm (128 ^ k) 128, ← Nat.mul_assoc]
            exact Nat.mul_lt_mul_of_pos_right (by omega) hp
          have h4 : (m + 1) * 128 ^ (k + 1) ≤ 18446744073709551616 := by
            have h5 : 128 ^ (k + 1) * 2 ^ (64 - 7 * (k + 1)) = 18446744073709551616 := by
              have : k = 0 ∨ k = 1 ∨ k = 2 ∨ k = 3 ∨ k = 4 ∨ k = 5 ∨ k = 6 ∨ k = 7 ∨ k = 8 := by omega
              rcases this with rfl | rfl | rfl | rfl | rfl | rfl | rfl | rfl | rfl <;> decide
            have h6 : m < 2 ^ (64 - 7 * (k + 1)) := by
              refine Nat.lt_of_mul_lt_mul_left (a := 128 ^ (k + 1)) ?_
              rw [h5, Nat.mul_comm]; exact hb
            rw [← h5, Nat.mul_comm]
            exact Nat.mul_le_mul_left _ h6
          omega

theorem numR_ok {ys : List UInt8} {n : Nat} {r : List UInt8} (h : numR ys = .ok n r) : ys = lebL n ++ r ∧ n < 18446744073709551616 := by
  obtain ⟨m, hn, _, h1, h2⟩ := decL_ok ys 0 0 n r (by omega) (by decide) h
  have : m = n := by rw [hn, Nat.zero_add, Nat.pow_zero, Nat.mul_one]
  subst this
  exact ⟨h1, by simpa using h2⟩

theorem numD_ok {most n : Nat} {ys r : List UInt8} (h : numD most ys = .ok n r) : ys = lebL n ++ r ∧ n ≤ most ∧ n < 18446744073709551616 := by
  simp only [numD] at h
  split at h
  · cases h
  · cases h
  · rename_i n' r' hn
    split at h
    · cases h
    · simp only [Dr.ok.injEq] at h
      obtain ⟨rfl, rfl⟩ := h
      obtain ⟨h1, h2⟩ := numR_ok hn
      exact ⟨h1, by omega, h2⟩
end Go.Mv
namespace Go.Mv
open Go
section te
variable {P : Program} {ops : Array Oper} {p : Pst} {q : List Nat} {C : Ctx} {L M : Mem} {k : Nat} {tr : Tr} {E : Env}
variable {d : Nat} {ty : TypeId} {ps : String} {af : Array Edge} {g : Option (Nat × Bool)}
/-- defer f(..), in no round. -/
theorem TE_defer {f : Operand} {xs : Array Operand} {ats : Array TypeId} {fn : Fn} {fs cap : Array Value} {vs : List Value} (ho : ops[k]? = some ⟨none, .defer ⟨.value f, xs, ats⟩, ty, ps, af, g⟩) (hg : GOK ops E g)
    (hf : evalE E f = some (.func fn fs cap)) (ha : evalL E xs.toList = some vs)
    (h : TE P none ops p q ⟨C.N, { target := .fn fn cap, args := fs ++ vs.toArray } :: C.ds, C.w0, C.X⟩ L tr E M) : TE P none ops p q C L (.op k tr) E M := TE_intro fun a w hr hs => by
  have hl : ld ops q k = true := by simp [ld, ho]
  rw [TT_op, TS_loud ho hl]
  unfold wpOpIn
  simp only [ho]
  have hw : Region.wanted (⟨none, .defer ⟨.value f, xs, ats⟩, ty, ps, af, g⟩ : Oper) (yielded ops a.tmps) = true := GOK.wanted (o := ⟨none, .defer ⟨.value f, xs, ats⟩, ty, ps, af, g⟩) hg hr
  rw [if_pos hw]
  refine ⟨fun _ _ => trivial, ?_⟩
  have e : xs.map a.eval = vs.toArray := by apply Array.toList_inj.1; simpa using evalL_map (fun x u hu => hr.eval hu) _ _ ha
  have hrun : (Oper.semAt (Fw none).round a.eval ⟨none, .defer ⟨.value f, xs, ats⟩, ty, ps, af, g⟩).run P w = .ok (.defer { target := .fn fn cap, args := fs ++ vs.toArray }) w := by
    rw [show (Fw none).round = none from rfl, Oper.semAt_none]
    simp only [execOp, resolve, hr.eval hf, e, Deferred.ofValue]
    simp only [Sem.run_bind, Sem.run_pure, Result.andThen_ok]
  rw [hrun]
  refine ⟨hs.hp.right, ?_⟩
  exact h _ _ ⟨hr.size, by simp [hr.defers, Act.put], hr.get⟩ ⟨hs.fr, hs.hp⟩
end te
/-- A function's contract as a deferred call's. -/
def CallsDf (P : Program) (f : FuncId) (args : Array Value) (w : World) (R : Ending → World → Prop) : Prop :=
  CallsDIn (Fw none) 0 P f args .returning w fun e u' w' => u' = .returning ∧ R e w'

def retD (P : Program) (fn : Func) (R : Ending → World → Prop) : Act → World → Prop := fun a w => a.defers = [] ∧ ∃ v, (results fn a.tmps).run P w = .ok v w ∧ R (.returned v) w

def exitPD (P : Program) (fn : Func) (R : Ending → World → Prop) : Pst :=
  { n := retD P fn R, r := retD P fn R, x := fun _ _ _ => False, g := fun _ _ _ => False }

theorem fn_enterD {P : Program} {f : FuncId} {fn : Func} {c : Code} {args : List Value} {N : Nat} {w : World} {X : List Nat} {H : Mem} {post : Value → Mem → Prop} (hf : P.funcs[f]? = some fn) (hb : fn.body = some c) (hN : fn.ntmps = N) (hlen : Nat.ble args.length N = true) (hH : Hp H w)
    (h : PN ⟨N, [], w, X⟩ (WP P none c (exitPD P fn (Ret w X post))) (enum 0 args) H) : CallsDf P f args.toArray w (Ret w X post) := by
  refine callsDIn_of_wp hf hb trivial ?_ rfl
  have h0 := h { tmps := args.toArray ++ Array.replicate (fn.ntmps - args.toArray.size) undef, defers := [] } w ?_ ⟨Fr.refl w X, hH⟩
  · exact wp_of (p := exitPD P fn (Ret w X post)) (fun e a w q => by cases e <;> first | exact q | exact q.elim) h0
  · have hlen' : args.length ≤ N := by simpa using hlen
    refine ⟨by simp [hN]; omega, rfl, ?_⟩
    intro t v ht
    obtain ⟨_, h2⟩ := enum_get args 0 t v ht
    obtain ⟨hlt, h3⟩ := List.getElem?_eq_some_iff.1 h2
    simp only [Nat.sub_zero] at hlt h3
    rw [Array.getElem?_append_left (by simpa using hlt)]
    simpa using h2

section done
variable {P : Program} {fn : Func} {C : Ctx} {E : Env} {H : Mem} {post : Value → Mem → Prop} {X : List Nat}
theorem pn_doneD {N : Nat} {w : World} {l : List ResultVar} {vs : List Value} {H1 : Mem} (hl : fn.results = l.toArray) (hv : resE E l = some vs) (hp : post (tupV vs) H1) (hH : ∀ w, Hp H w → Hp H1 w) (hn : ∀ e ∈ H1, e.1 ∈ X ∨ w.heap.size ≤ e.1) :
    PN ⟨N, [], w, X⟩ (retD P fn (Ret w X post)) E H := fun _ w' hr hs => ⟨hr.defers, _, results_run hr w' hl hv, _, H1, rfl, hp, hs.fr, hH _ hs.hp, hn⟩

/-- How a frame leaves: with the deferred calls ds. -/
def LV (P : Program) (fn : Func) (C : Ctx) (R : Ending → World → Prop) (E : Env) (ds : List Deferred) (H : Mem) : Prop :=
  ∀ a w, Rep C.N [] E a → St C.w0 C.X H w → LeavesInM (Fw none) 0 P fn a.tmps R ds .returning w

variable {R : Ending → World → Prop} {ds : List Deferred}
theorem lv_ret (h : LV P fn C R E C.ds H) : PN C (retP P fn R) E H := fun a w hr hs => by
  unfold retP
  rw [hr.defers]
  exact h { a with defers := [] } w ⟨hr.size, rfl, hr.get⟩ hs

theorem lv_mark {D : Nat} (A B : Mem) (hAB : H = A ++ (D, .deferred (some [])) :: B) (hD : C.w0.heap.size ≤ D) (h : LV P fn C R E ds (A ++ B)) : LV P fn C R E ({ target := .collected D, args := #[] } :: ds) H := fun a w hr hs => by
  have hpm : Hp ((D, .deferred (some [])) :: (A ++ B)) w := hs.hp.perm (by rw [hAB]; exact List.perm_middle)
  have hget : w.heap[D]? = some (.deferred (some [])) := hpm.at_ (D, _) (by simp)
  refine ⟨by simp, .inl ⟨D, _, rfl, run_takeDeferred hget, ?_⟩⟩
  exact h a _ hr ⟨hs.fr.putObj D _ (.inr hD), (hpm.putObj (o' := .deferred none)).sub (List.sublist_cons_self _ _)⟩

theorem lv_call {f : FuncId} {args cap : Array Value} {post' : Value → Mem → Prop} (A B : Mem) (hAB : ∀ w, Hp H w → Hp (A ++ B) w) (hen : ∀ args w, (callFunc f args).run P w = .ok (.enter f args) w) (hX : ∀ e ∈ B, C.w0.heap.size ≤ e.1 ∨ e.1 ∈ C.X)
    (hc : ∀ w, Hp (A ++ B) w → CallsDf P f (args ++ cap) w (Ret w (keys B) post'))
    (h : ∀ v H1, post' v H1 → (∀ e ∈ H1, C.w0.heap.size ≤ e.1 ∨ e.1 ∈ C.X) → LV P fn C R E ds (A ++ H1)) : LV P fn C R E ({ target := .fn (.func f) cap, args := args } :: ds) H := fun a w hr hs => by
  have hH := hAB w hs.hp
  refine ⟨by simp, .inr ⟨fun h => by simp [Fw] at h, .func f, cap, f, args ++ cap, rfl, ?_, fun _ _ => trivial, ?_⟩⟩
  · simp only [invoke, hen]
  · refine CallsDIn.mono (hc w hH) ?_
    rintro e u' w' ⟨rfl, v, H1, rfl, hp, hfr, hH1, hnew⟩
    have hs' : St C.w0 C.X (A ++ B) w := ⟨hs.fr, hH⟩
    obtain ⟨h1, h2⟩ := hs'.after hX hfr hH1 hnew
    exact h v H1 hp h2 a w' hr h1

theorem lv_nil {v : Value} {H1 : Mem} {w0 : World} {N : Nat} {ds0 : List Deferred} (hv : ∀ a w, Rep N [] E a → St w0 X H w → (results fn a.tmps).run P w = .ok v w) (hp : post v H1) (hH : ∀ w, Hp H w → Hp H1 w) (hn : ∀ e ∈ H1, e.1 ∈ X ∨ w0.heap.size ≤ e.1) :
    LV P fn ⟨N, ds0, w0, X⟩ (Ret w0 X post) E [] H := fun a w hr hs => ⟨v, hv a w hr hs, v, H1, rfl, hp, hs.fr, hH w hs.hp, hn⟩

/-- Results, out of slots and cells. -/
def resF (P : Program) (E : Env) (H : Mem) : List ResultVar → List Value → Prop
  | [], vs => vs = []
  | .tmp t :: r, vs => ∃ v us, vs = v :: us ∧ E.get t = some v ∧ resF P E H r us
  | .cell b T :: r, vs => ∃ v us bb off, vs = v :: us ∧ E.get b = some (.pointer (some ⟨bb, off, none⟩)) ∧ (∀ w, Hp H w → (loadVar T ⟨bb, off, none⟩).run P w = .ok v w) ∧ resF P E H r us

theorem resF_run {P : Program} {N : Nat} {ds : List Deferred} {E : Env} {H : Mem} {a : Act} (hr : Rep N ds E a) (w : World) (hw : Hp H w) : ∀ (l : List ResultVar) (vs : List Value), resF P E H l vs →
    (l.mapM (m := Sem) fun | .tmp t => pure (a.tmps.getD t undef) | .cell b t => do loadVar t (← asAddr (a.tmps.getD b undef))).run P w = .ok vs w
  | [], vs, h => by simp only [resF] at h; subst h; rfl
  | .tmp t :: r, vs, h => by
    obtain ⟨v, us, rfl, h1, h2⟩ := h
    have ih := resF_run hr w hw r us h2
    have hv' : a.tmps.getD t undef = v := by simp [Array.getD_eq_getD_getElem?, hr.get t v h1]
    rw [List.mapM_cons]
    simp only [Sem.run_bind, Sem.run_pure, Result.andThen_ok, ih, hv']
  | .cell b T :: r, vs, h => by
    obtain ⟨v, us, bb, off, rfl, h1, hl, h2⟩ := h
    have ih := resF_run hr w hw r us h2
    have hv' : a.tmps.getD b undef = .pointer (some ⟨bb, off, none⟩) := by simp [Array.getD_eq_getD_getElem?, hr.get b _ h1]
    have hb := hl w hw
    have h3 : (do loadVar T (← asAddr (a.tmps.getD b undef))).run P w = .ok v w := by rw [hv']; simpa [asAddr] using hb
    rw [List.mapM_cons, Sem.run_bind]
    show Result.andThen ((do loadVar T (← asAddr (a.tmps.getD b undef))).run P w) _ = _
    rw [h3]
    simp only [Result.andThen_ok, Sem.run_bind, ih, Sem.run_pure]

theorem load_cell {P : Program} {H : Mem} {T : TypeId} {i bb off : Nat} {cs : Array Value} {t : TypeId} {fz : Nat × Nat} {v : Value} (ha : ∀ w, (isAgg T).run P w = .ok false w) (hi : H[i]? = some (bb, .cells cs t fz)) (hv : cget cs off = some v) : ∀ w, Hp H w → (loadVar T ⟨bb, off, none⟩).run P w = .ok v w := fun w hw => by
  rw [cget_eq] at hv
  have hc := (cell_of hw (off := off) hi).trans hv
  simp [loadVar, ha, hc]
theorem load_agg {P : Program} {H : Mem} {T : TypeId} {i bb off n : Nat} {cs : Array Value} {t : TypeId} {fz : Nat × Nat} {v : Value} (ha : ∀ w, (isAgg T).run P w = .ok true w) (hz : ∀ w, (sizeOf T).run P w = .ok n w) (hi : H[i]? = some (bb, .cells cs t fz)) (hn : off + n ≤ cs.size) (hv : Value.agg (cs.extract off (off + n)) = v) : ∀ w, Hp H w → (loadVar T ⟨bb, off, none⟩).run P w = .ok v w := fun w hw => by
  have hc := run_loadCells_agg (P := P) (w := w) (b := bb) (off := off) (n := n) (cs := cs) (fun j _ => cell_of hw (off := off + j) hi) hn
  subst hv
  simp [loadVar, ha, hz, hc]

theorem resultsF_run {P : Program} {fn : Func} {N : Nat} {ds : List Deferred} {E : Env} {H : Mem} {a : Act} (hr : Rep N ds E a) (w : World) (hw : Hp H w) {l : List ResultVar} (hl : fn.results = l.toArray) {vs : List Value} (h : resF P E H l vs) :
    (results fn a.tmps).run P w = .ok (tupV vs) w := by
  have := resF_run hr w hw l vs h
  unfold results
  rw [hl, Array.mapM_eq_mapM_toList]
  simp only [Sem.run_bind, Sem.run_map]
  erw [this]
  simp only [Result.andThen_ok, Sem.run_pure]
  rcases vs with _ | ⟨v, _ | ⟨u, r⟩⟩ <;> simp [tupV]

/-- The end: no deferred calls are left; results out of slots and cells. -/
theorem lv_end {l : List ResultVar} {vs : List Value} {H1 : Mem} {w0 : World} {N : Nat} {ds0 : List Deferred} (hl : fn.results = l.toArray) (hv : resF P E H l vs) (hp : post (tupV vs) H1) (hH : ∀ w, Hp H w → Hp H1 w) (hn : ∀ e ∈ H1, e.1 ∈ X ∨ w0.heap.size ≤ e.1) :
    LV P fn ⟨N, ds0, w0, X⟩ (Ret w0 X post) E [] H :=
  lv_nil (fun _ w hr hs => resultsF_run hr w hs.hp hl hv) hp hH hn
/-- The end of a function without deferred calls. -/
theorem pn_doneF {l : List ResultVar} {vs : List Value} {H1 : Mem} {w0 : World} {N : Nat} (hl : fn.results = l.toArray) (hv : resF P E H l vs) (hp : post (tupV vs) H1) (hH : ∀ w, Hp H w → Hp H1 w) (hn : ∀ e ∈ H1, e.1 ∈ X ∨ w0.heap.size ≤ e.1) :
    PN ⟨N, [], w0, X⟩ (retP P fn (Ret w0 X post)) E H := lv_ret (lv_end hl hv hp hH hn)
end done
end Go.Mv
namespace Go.Mv
open Go
theorem allC {Q : Nat → Prop} {a : Nat} {o : Obj} {H : Mem} (h1 : Q a) (h2 : ∀ e ∈ H, Q e.1) : ∀ e ∈ (a, o) :: H, Q e.1 := fun e he => by
  rcases List.mem_cons.1 he with rfl | he
  · exact h1
  · exact h2 e he
theorem allN {Q : Nat → Prop} : ∀ e ∈ ([] : Mem), Q e.1 := fun e he => by simp at he
theorem allA {Q : Nat → Prop} {A B : Mem} (h1 : ∀ e ∈ A, Q e.1) (h2 : ∀ e ∈ B, Q e.1) : ∀ e ∈ A ++ B, Q e.1 := fun e he => (List.mem_append.1 he).elim (h1 e) (h2 e)

theorem get_putL : ∀ (vs : List Value) (cs : Array Value) (off i : Nat), off + vs.length ≤ cs.size → (putL cs off vs)[i]? = if off ≤ i ∧ i < off + vs.length then vs[i - off]? else cs[i]?
  | [], cs, off, i, _ => by
    rw [if_neg (by simp only [List.length_nil]; omega)]; rfl
  | v :: r, cs, off, i, h => by
    simp only [List.length_cons] at h
    rw [putL, get_putL r _ (off + 1) i (by rw [Array.size_setIfInBounds]; omega)]
    by_cases h1 : off + 1 ≤ i ∧ i < off + 1 + r.length
    · rw [if_pos h1, if_pos (by simp only [List.length_cons]; omega), show i - off = (i - (off + 1)) + 1 from by omega, List.getElem?_cons_succ]
    · rw [if_neg h1]
      by_cases h2 : off = i
      · subst h2
        rw [Array.getElem?_setIfInBounds_self_of_lt (by omega), if_pos (by simp only [List.length_cons]; omega), Nat.sub_self]; rfl
      · rw [Array.getElem?_setIfInBounds_ne h2, if_neg (by simp only [List.length_cons]; omega)]
theorem putL_whole {cs : Array Value} {vs : List Value} (h : vs.length = cs.size) : putL cs 0 vs = vs.toArray := by
  apply Array.ext_getElem?
  intro i
  rw [get_putL vs cs 0 i (by omega)]
  by_cases hi : i < vs.length
  · rw [if_pos (by omega)]; simp
  · rw [if_neg (by omega), Array.getElem?_eq_none (by omega), Array.getElem?_eq_none (by simp; omega)]
section rd
variable {P : Program} {ty : TypeId} {E : Env} {L : Mem} {x y : Operand} {T U : TypeId}
theorem RD.orU {a b : Nat} (hx : evalE E x = some (.int .u64 (a : Int))) (hy : evalE E y = some (.int .u64 (b : Int))) (ha : a < 18446744073709551616) (hb : b < 18446744073709551616) : RD P (.binOp .or T x y U) ty E L (.int .u64 ((a ||| b : Nat) : Int)) :=
  RD.bin .or (fun w => by simp [eqGuard, binOp, intBits_or, u64_or_nat a b ha hb]) hx hy
end rd
theorem pow128 (k : Nat) : (128 : Nat) ^ k = 2 ^ (7 * k) := by rw [Nat.pow_mul]
theorem rem128 (c : Nat) : Value.int .u8 ((c : Int).tmod 128) = .int .u8 ((c % 128 : Nat) : Int) := by
  rw [Int.tmod_eq_emod_of_nonneg (by omega)]; simp
theorem shl_low {m k : Nat} (hk : k ≤ 9) (h : m * 128 ^ k < 18446744073709551616) : Value.int .u64 (IntKind.u64.wrap ((m : Int) * 2 ^ min (7 * (k : Int)).toNat IntKind.u64.bits)) = .int .u64 ((m * 128 ^ k : Nat) : Int) := by
  have e1 : (7 * (k : Int)).toNat = 7 * k := by omega
  have e2 : min (7 * k) IntKind.u64.bits = 7 * k := Nat.min_eq_left (by show 7 * k ≤ 64; omega)
  rw [e1, e2, u64_wrap]
  have e3 : (m : Int) * 2 ^ (7 * k) = ((m * 128 ^ k : Nat) : Int) := by rw [pow128]; push_cast; rfl
  rw [e3, Int.emod_eq_of_lt (by omega) (by omega)]
theorem or_low {a m k : Nat} (h : a < 128 ^ k) : a ||| m * 128 ^ k = a + m * 128 ^ k := by
  rw [pow128] at h ⊢
  rw [Nat.or_comm, Nat.mul_comm m, ← Nat.two_pow_add_eq_or_of_lt h, Nat.add_comm]
theorem low_lt {c k : Nat} (hk : k ≤ 9) (h : ¬ ((k = 9 ∧ (c % 128 > 1 ∨ ¬ c < 128)) ∨ (c < 128 ∧ c % 128 = 0 ∧ 0 < k))) : c % 128 * 128 ^ k < 18446744073709551616 := by
  by_cases h9 : k = 9
  · subst h9
    have h1 : c % 128 ≤ 1 := by omega
    have h2 : c % 128 * 128 ^ 9 ≤ 1 * 128 ^ 9 := Nat.mul_le_mul_right _ h1
    have h3 : (128 : Nat) ^ 9 = 9223372036854775808 := by decide
    omega
  · have h1 : (128 : Nat) ^ k ≤ 128 ^ 8 := Nat.pow_le_pow_right (by decide) (by omega)
    have h2 : c % 128 * 128 ^ k ≤ 127 * 128 ^ 8 := Nat.mul_le_mul (by omega) h1
    have h3 : 127 * (128 : Nat) ^ 8 < 18446744073709551616 := by decide
    omega
theorem acc_lt {c k a : Nat} (ha : a < 128 ^ k) : a + c % 128 * 128 ^ k < 128 ^ (k + 1) := by
  have h2 : c % 128 * 128 ^ k ≤ 127 * 128 ^ k := Nat.mul_le_mul_right _ (by omega)
  rw [Nat.pow_succ]; omega
theorem acc_lt64 {k a : Nat} (hk : k ≤ 9) (ha : a < 128 ^ k) : a < 18446744073709551616 := by
  have h1 : (128 : Nat) ^ k ≤ 128 ^ 9 := Nat.pow_le_pow_right (by decide) hk
  have h3 : (128 : Nat) ^ 9 < 18446744073709551616 := by decide
  omega

theorem pn_perm {C : Ctx} {K : Act → World → Prop} {E : Env} {H : Mem} (H' : Mem) (hp : ∀ w, Hp H w → Hp H' w) (h : PN C K E H') : PN C K E H := fun a w hr hs => h a w hr ⟨hs.fr, hp w hs.hp⟩

section te
variable {P : Program} {rd : Option Nat} {ops : Array Oper} {p : Pst} {q : List Nat} {C : Ctx} {L M : Mem} {k : Nat} {tr : Tr} {E : Env}
variable {d : Nat} {ty : TypeId} {ps : String} {af : Array Edge} {g : Option (Nat × Bool)}
theorem TE_yieldT {f : Operand} {xs : Array Operand} {ats : Array TypeId} {l : Nat} {vs : List Value} {post : Value → Mem → Prop} (A R : Mem) (hM : M = A ++ R) (ho : ops[k]? = some ⟨some d, .call ⟨.value f, xs, ats⟩, ty, ps, af, g⟩) (hl : ld ops q k = true) (hg : GOK ops E g)
    (hf : evalE E f = some (.func (.yield l) #[] #[])) (ha : evalL E xs.toList = some vs) (hd : Nat.blt d C.N = true) (hX : ∀ e ∈ R, C.w0.heap.size ≤ e.1 ∨ e.1 ∈ C.X)
    (hc : ∀ w, St C.w0 C.X (M ++ L) w → Yd P l vs w (Ret w (keys R) post))
    (h : ∀ v H1, post v H1 → (∀ e ∈ H1, C.w0.heap.size ≤ e.1 ∨ e.1 ∈ C.X) → TE P rd ops p q C L tr ((d, v) :: E) (A ++ H1)) : TE P rd ops p q C L (.op k tr) E M :=
  TE_yield A.length ho hl hg hf ha hd (by rw [hM]; exact List.take_left) (by rw [hM]; exact List.drop_left) hX hc h
theorem set_same {M : Mem} {i : Nat} {x : Nat × Obj} (h : M[i]? = some x) : M.set i x = M := by
  apply List.ext_getElem?
  intro j
  by_cases hj : i = j
  · subst hj
    obtain ⟨hlt, hg⟩ := List.getElem?_eq_some_iff.1 h
    simp [hlt, hg]
  · simp [hj]
end te
end Go.Mv
namespace Go.Mv
open Go
def bldV (l : List UInt8) : SnkS → Value
  | none => .slice none 0 0
  | some (b, cap, _) => .slice (some ⟨b, 0, none⟩) l.length cap
def bldM (u : TypeId) (l : List UInt8) : SnkS → Mem
  | none => []
  | some (b, _, tl) => [(b, .cells (bcells l ++ tl).toArray u (0, 0))]

theorem RetB.bld {u : TypeId} {v : Value} {H1 : Mem} {ys : List UInt8} (h : RetB u v H1 ys) : ∃ st, SnkOk ys st ∧ v = bldV ys st ∧ H1 = bldM u ys st := by
  rcases h with ⟨b, cap, tl, rfl, rfl, h1, h2, h3⟩ | ⟨rfl, rfl, rfl⟩
  · exact ⟨some (b, cap, tl), ⟨h1, h2, h3⟩, rfl, rfl⟩
  · exact ⟨none, rfl, rfl, rfl⟩
end Go.Mv
namespace Go.Mv
open Go
section rd
variable {P : Program} {ty : TypeId} {E : Env} {L : Mem} {x y : Operand} {T : TypeId} {k : IntKind}
theorem RD.indexStr {s : ByteArray} {i : Nat} {c : UInt8} {z : Int} (hT : P.underlying T = some .string) (hx : evalE E x = some (.string s)) (hy : evalE E y = some (.int k z)) (hz : z = (i : Int)) (hc : s.data.toList[i]? = some c) : RD P (.index T x y) ty E L (bcell c) := fun ρ w _ _ _ _ hρ _ => by
  subst hz
  obtain ⟨hlt, rfl⟩ := List.getElem?_eq_some_iff.1 hc
  have h1 : i < s.size := by simpa using hlt
  have h2 : s[i]? = some (s.data.toList[i]) := by
    rw [getElem?_pos s i h1]; simp [ByteArray.getElem_eq_getElem_data]
  simp [execOp, hρ _ _ hx, hρ _ _ hy, Instr.index, asIntOf, run_underlying hT, h2, bcell]
theorem RD.sliceStr {s : ByteArray} {lo hi : Option Operand} {l h : Nat} (hT : P.underlying T = some .string) (hx : evalE E x = some (.string s))
    (hlo : match lo with | none => l = 0 | some o => ∃ k, evalE E o = some (.int k l)) (hhi : match hi with | none => h = s.size | some o => ∃ k, evalE E o = some (.int k h)) (h1 : l ≤ h) (h2 : h ≤ s.size) : RD P (.slice T x lo hi none) ty E L (.string (s.extract l h)) := fun ρ w _ _ _ _ hρ _ => by
  have hTu := run_underlying (w := w) hT
  cases lo with
  | none =>
    subst hlo
    cases hi with
    | none => subst hhi; simp [execOp, Instr.sliceAt, Instr.slice, Instr.sliceBounds, hTu, hρ _ _ hx]
    | some o => obtain ⟨k, ho⟩ := hhi; simp [execOp, Instr.sliceAt, Instr.slice, Instr.sliceBounds, Instr.sliceBound, asIntOf, hTu, hρ _ _ hx, hρ _ _ ho, h2]
  | some o' =>
    obtain ⟨k', ho'⟩ := hlo
    cases hi with
    | none => subst hhi; simp [execOp, Instr.sliceAt, Instr.slice, Instr.sliceBounds, Instr.sliceBound, asIntOf, hTu, hρ _ _ hx, hρ _ _ ho', h1]
    | some o => obtain ⟨k, ho⟩ := hhi; simp [execOp, Instr.sliceAt, Instr.slice, Instr.sliceBounds, Instr.sliceBound, asIntOf, hTu, hρ _ _ hx, hρ _ _ ho, hρ _ _ ho', h1, h2]
end rd
end Go.Mv
