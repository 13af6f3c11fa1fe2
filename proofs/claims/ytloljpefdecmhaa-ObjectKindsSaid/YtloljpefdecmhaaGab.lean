import Derived.Test.YtloljpefdecmhaaGaa
import Derived.Laws.BitsAllLaws
import Derived.KernelRfl
import Derived.Lib.SplitLaws
import Derived.Shelf.SlSortCmp.WholeK
import Derived.Shelf.SlSortCmp.NoneTotal
import Derived.Laws.Externs
import Derived.Lib.Bytealg
import Derived.Laws.IdiomRangeMap
import Derived.Lib.IndexAny
import Derived.Test.YtloljpefdecmhaaProg
import Derived.Test.YtloljpefdecmhaaShl
namespace Go.Mv
open Go
/-- Bytes that can be read, at a slice that can be parted. -/
def Rdb (H : Mem) (v : Value) (ys : List UInt8) : Prop :=
  (v = .slice none 0 0 ∧ ys = []) ∨ ∃ b off cap, v = .slice (some ⟨b, off, none⟩) ys.length cap ∧ ys.length ≤ cap ∧ ∀ w, Hp H w → ∀ j u, (bcells ys)[j]? = some u → w.cell? ⟨b, off + j, none⟩ = some u

def subV (l h : Nat) : Value → Value
  | .slice (some ⟨b, off, _⟩) _ cap => .slice (some ⟨b, if cap = l then off else off + l, none⟩) (h - l) (cap - l)
  | v => v

theorem Rdb.mono {H H' : Mem} {v : Value} {ys : List UInt8} (h : Rdb H v ys) (hs : ∀ w, Hp H' w → Hp H w) : Rdb H' v ys := by
  rcases h with h | ⟨b, off, cap, h1, h2, h3⟩
  · exact .inl h
  · exact .inr ⟨b, off, cap, h1, h2, fun w hw => h3 w (hs w hw)⟩

theorem Rdb.sub {H : Mem} {v : Value} {ys : List UInt8} (h : Rdb H v ys) {l r : Nat} (h1 : l ≤ r) (h2 : r ≤ ys.length) : Rdb H (subV l r v) ((ys.take r).drop l) := by
  rcases h with ⟨rfl, rfl⟩ | ⟨b, off, cap, rfl, h3, h4⟩
  · exact .inl ⟨rfl, by simp⟩
  · refine .inr ⟨b, if cap = l then off else off + l, cap - l, ?_, ?_, ?_⟩
    · simp only [subV, List.length_drop, List.length_take, Nat.min_eq_left h2]
    · simp only [List.length_drop, List.length_take]; omega
    · intro w hw j u hj
      obtain ⟨hlt, _⟩ := List.getElem?_eq_some_iff.1 hj
      simp only [length_bcells, List.length_drop, List.length_take] at hlt
      have hne : ¬ cap = l := by omega
      rw [if_neg hne, Nat.add_assoc]
      refine h4 w hw (l + j) u ?_
      rw [← hj, bcells_get, bcells_get, List.getElem?_drop, List.getElem?_take_of_lt (by omega)]

theorem Rdb.cut {H : Mem} {v : Value} {ys : List UInt8} (h : Rdb H v ys) {l : Nat} (h1 : l ≤ ys.length) : Rdb H (subV l ys.length v) (ys.drop l) := by
  have := h.sub h1 (Nat.le_refl _); rwa [List.take_length] at this

theorem Rdb.bytes {H : Mem} {v : Value} {ys : List UInt8} (h : Rdb H v ys) : BytesIn H v ys := by
  rcases h with ⟨rfl, rfl⟩ | ⟨b, off, cap, rfl, h3, h4⟩
  · exact BytesIn.nil
  · refine ⟨_, cap, rfl, fun _ => ⟨_, rfl, fun w hw j u hj => ?_⟩⟩
    have hadd : (⟨b, off, none⟩ : Addr).add j = ⟨b, off + j, none⟩ := by
      unfold Addr.add; split
      · rename_i h; simp
      · rfl
    rw [hadd]; exact h4 w hw j u hj

theorem RetB.rdb {u : TypeId} {v : Value} {H1 : Mem} {ys : List UInt8} (h : RetB u v H1 ys) : Rdb H1 v ys := by
  rcases h with ⟨b, cap, tl, rfl, rfl, h1, h2, h3⟩ | ⟨rfl, rfl, rfl⟩
  · refine .inr ⟨b, 0, cap, rfl, h1, fun w hw j u hj => ?_⟩
    rw [Nat.zero_add, cell_of hw (i := 0) (off := j) rfl]
    obtain ⟨hlt, _⟩ := List.getElem?_eq_some_iff.1 hj
    simp [List.getElem?_append_left hlt, hj]
  · exact .inl ⟨rfl, rfl⟩

theorem Rdb.cons {H : Mem} {v : Value} {c : UInt8} {r : List UInt8} (h : Rdb H v (c :: r)) : ∃ b off cap, v = .slice (some ⟨b, off, none⟩) (r.length + 1) cap ∧ r.length + 1 ≤ cap ∧ ∀ w, Hp H w → w.cell? ⟨b, off, none⟩ = some (bcell c) := by
  rcases h with ⟨_, h⟩ | ⟨b, off, cap, rfl, h3, h4⟩
  · cases h
  · exact ⟨b, off, cap, rfl, h3, fun w hw => h4 w hw 0 _ rfl⟩

theorem Rdb.shape {H : Mem} {v : Value} {ys : List UInt8} (h : Rdb H v ys) : ∃ a c, v = .slice a ys.length c := by
  rcases h with ⟨rfl, rfl⟩ | ⟨b, off, cap, rfl, h3, h4⟩
  · exact ⟨_, _, rfl⟩
  · exact ⟨_, _, rfl⟩

section rd
variable {P : Program} {ty : TypeId} {E : Env} {L : Mem} {v u : Value} {x y z : Operand} {T U : TypeId}
theorem RD.lenR {H : Mem} {ys : List UInt8} {e : TypeId} (hT : ∀ w, (underlying T).run P w = .ok (.slice e) w) (hx : evalE E x = some v) (hb : Rdb H v ys) : RD P (.call ⟨.builtin .len, #[x], #[T]⟩) ty E L (.int .i64 ys.length) := by
  obtain ⟨a, c, rfl⟩ := hb.shape
  exact RD.len_slice hT hx

/-- A cell that is known to be there. -/
theorem RD.loadC {b off : Nat} (ha : ∀ w, (isAgg T).run P w = .ok false w) (hx : evalE E x = some (.pointer (some ⟨b, off, none⟩))) (hc : ∀ w, Hp L w → w.cell? ⟨b, off, none⟩ = some v) : RD P (.load T x) ty E L v := fun ρ w _ _ _ _ hρ hL => by
  simp [execOp, hρ _ _ hx, Instr.loadAt, Instr.sureAddr, loadVar, ha, hc w hL]

theorem RD.sliceR {H : Mem} {ys : List UInt8} {el : TypeId} {lo hi : Option Operand} {l h : Nat} (hT : ∀ w, (underlying T).run P w = .ok (.slice el) w) (hz : ∀ w, (sizeOf el).run P w = .ok 1 w) (hx : evalE E x = some v) (hb : Rdb H v ys)
    (hlo : match lo with | none => l = 0 | some o => ∃ k, evalE E o = some (.int k l)) (hhi : match hi with | none => h = ys.length | some o => ∃ k, evalE E o = some (.int k h)) (h1 : l ≤ h) (h2 : h ≤ ys.length) :
    RD P (.slice T x lo hi none) ty E L (subV l h v) := fun ρ w _ _ _ _ hρ _ => by
  have hadd : ∀ b off, (⟨b, off, none⟩ : Addr).add l = ⟨b, off + l, none⟩ := fun b off => by
    unfold Addr.add; split
    · simp
    · rfl
  rcases hb with ⟨rfl, rfl⟩ | ⟨b, off, cap, rfl, h3, h4⟩
  · have h0 : h = 0 := by simpa using h2
    subst h0
    have l0 : l = 0 := by omega
    subst l0
    cases lo with
    | none =>
      cases hi with
      | none => simp [execOp, Instr.sliceAt, Instr.slice, Instr.sliceBounds, hT, hz, hρ _ _ hx, subV]
      | some o =>
        obtain ⟨k, ho⟩ := hhi
        simp [execOp, Instr.sliceAt, Instr.slice, Instr.sliceBounds, Instr.sliceBound, asIntOf, hT, hz, hρ _ _ hx, hρ _ _ ho, subV]
    | some o' =>
      obtain ⟨k', ho'⟩ := hlo
      cases hi with
      | none => simp [execOp, Instr.sliceAt, Instr.slice, Instr.sliceBounds, Instr.sliceBound, asIntOf, hT, hz, hρ _ _ hx, hρ _ _ ho', subV]
      | some o =>
        obtain ⟨k, ho⟩ := hhi
        simp [execOp, Instr.sliceAt, Instr.slice, Instr.sliceBounds, Instr.sliceBound, asIntOf, hT, hz, hρ _ _ hx, hρ _ _ ho, hρ _ _ ho', subV]
  · have h2' : h ≤ cap := by omega
    cases lo with
    | none =>
      subst hlo
      cases hi with
      | none => subst hhi; simp [execOp, Instr.sliceAt, Instr.slice, Instr.sliceBounds, hT, hz, hρ _ _ hx, Addr.add, subV]
      | some o =>
        obtain ⟨k, ho⟩ := hhi
        simp [execOp, Instr.sliceAt, Instr.slice, Instr.sliceBounds, Instr.sliceBound, asIntOf, hT, hz, hρ _ _ hx, hρ _ _ ho, Addr.add, h2', subV]
    | some o' =>
      obtain ⟨k', ho'⟩ := hlo
      by_cases hc : cap = l
      · cases hi with
        | none =>
          subst hhi
          simp [execOp, Instr.sliceAt, Instr.slice, Instr.sliceBounds, Instr.sliceBound, asIntOf, hT, hz, hρ _ _ hx, hρ _ _ ho', h1, subV, hc]
        | some o =>
          obtain ⟨k, ho⟩ := hhi
          have : h ≤ l := by omega
          simp [execOp, Instr.sliceAt, Instr.slice, Instr.sliceBounds, Instr.sliceBound, asIntOf, hT, hz, hρ _ _ hx, hρ _ _ ho, hρ _ _ ho', h1, this, subV, hc]
      · cases hi with
        | none =>
          subst hhi
          simp [execOp, Instr.sliceAt, Instr.slice, Instr.sliceBounds, Instr.sliceBound, asIntOf, hT, hz, hρ _ _ hx, hρ _ _ ho', h1, hadd, subV, hc]
        | some o =>
          obtain ⟨k, ho⟩ := hhi
          simp [execOp, Instr.sliceAt, Instr.slice, Instr.sliceBounds, Instr.sliceBound, asIntOf, hT, hz, hρ _ _ hx, hρ _ _ ho, hρ _ _ ho', h1, h2', hadd, subV, hc]
end rd
inductive NumR where
  | ok (n : Nat) (rest : List UInt8)
  | short
  | form

/-- 'k' bytes were read; they come to 'acc'. -/
def decL : List UInt8 → Nat → Nat → NumR
  | [], _, _ => .short
  | c :: r, k, acc =>
    if (k = 9 ∧ (c.toNat % 128 > 1 ∨ ¬ c.toNat < 128)) ∨ (c.toNat < 128 ∧ c.toNat % 128 = 0 ∧ 0 < k) then .form
    else if c.toNat < 128 then .ok (acc + c.toNat % 128 * 128 ^ k) r
    else decL r (k + 1) (acc + c.toNat % 128 * 128 ^ k)

def numR (ys : List UInt8) : NumR := decL ys 0 0

/-- What reading comes to: what was read and what is left, or an error's number. -/
inductive Dr (α : Type) where
  | ok (x : α) (r : List UInt8)
  | err (e : Int)

def numD (most : Nat) (ys : List UInt8) : Dr Nat :=
  match numR ys with
  | .short => .err 10
  | .form => .err 11
  | .ok n r => if most < n then .err 12 else .ok n r

theorem decL_ok : ∀ (ys : List UInt8) (k acc n : Nat) (r : List UInt8), k ≤ 9 → acc < 128 ^ k → decL ys k acc = .ok n r → ∃ m, n = acc + m * 128 ^ k ∧ (0 < k → 0 < m) ∧ ys = lebL m ++ r ∧ m * 128 ^ k < 18446744073709551616
  | [], k, acc, n, r, _, _, h => by simp [decL] at h
  | c :: ys, k, acc, n, r, hk, ha, h => by
    have hc : c.toNat < 256 := c.toNat_lt
    have hp : 0 < 128 ^ k := Nat.pow_pos (by decide)
    have h9 : k ≤ 8 → 128 ^ k * 128 ≤ 9223372036854775808 := fun h => by
      have : 128 ^ (k + 1) ≤ 128 ^ 9 := Nat.pow_le_pow_right (by decide) (by omega)
      rw [Nat.pow_succ] at this; exact this
    simp only [decL] at h
    split at h
    · cases h
    · rename_i hform
      split at h
      · rename_i hw
        simp only [NumR.ok.injEq] at h
        obtain ⟨rfl, rfl⟩ := h
        have hm : c.toNat % 128 = c.toNat := Nat.mod_eq_of_lt hw
        refine ⟨c.toNat, by rw [hm], fun h0 => ?_, ?_, ?_⟩
        · rw [hm] at hform; omega
        · rw [lebL_small hw, UInt8.ofNat_toNat]; rfl
        · by_cases h8 : k ≤ 8
          · have := h9 h8
            have h2 : c.toNat * 128 ^ k ≤ 127 * 128 ^ k := Nat.mul_le_mul_right _ (by omega)
            omega
          · have : k = 9 := by omega
            subst this
            have : c.toNat ≤ 1 := by rw [hm] at hform; omega
            have h2 : c.toNat * 128 ^ 9 ≤ 1 * 128 ^ 9 := Nat.mul_le_mul_right _ this
            have h3 : (128 : Nat) ^ 9 = 9223372036854775808 := by decide
            omega
      · rename_i hw
        have hk8 : k ≤ 8 := by omega
        have ha' : acc + c.toNat % 128 * 128 ^ k < 128 ^ (k + 1) := by
          have h2 : c.toNat % 128 * 128 ^ k ≤ 127 * 128 ^ k := Nat.mul_le_mul_right _ (by omega)
          rw [Nat.pow_succ]; omega
        obtain ⟨m, rfl, hm0, rfl, hb⟩ := decL_ok ys (k + 1) _ n r (by omega) ha' h
        refine ⟨m * 128 + c.toNat % 128, ?_, fun _ => by have := hm0 (by omega); omega, ?_, ?_⟩
        · rw [Nat.pow_succ, Nat.add_mul, Nat.mul_comm (128 ^ k) 128, ← Nat.mul_assoc]; omega
        · have h1 : ¬ m * 128 + c.toNat % 128 < 128 := by have := hm0 (by omega); omega
          rw [lebL_big h1]
          have e1 : (m * 128 + c.toNat % 128) / 128 = m := by omega
          have e2 : (m * 128 + c.toNat % 128) % 128 + 128 = c.toNat := by omega
          rw [e1, e2, UInt8.ofNat_toNat]; rfl
        · have h3 : (m * 128 + c.toNat % 128) * 128 ^ k < (m + 1) * 128 ^ (k + 1) := by
            rw [Nat.pow_succ, Nat.mul_comm (128 ^ k) 128, ← Nat.mul_assoc]
            exact Nat.mul_lt_mul_of_pos_right (by omega) hp
          have h4 : (m + 1) * 128 ^ (k + 1) ≤ 18446744073709551616 := by
            have h5 : 128 ^ (k + 1) * 2 ^ (64 - 7 * (k + 1)) = 18446744073709551616 := by
              have : k = 0 ∨ k = 1 ∨ k = 2 ∨ k = 3 ∨ k = 4 ∨ k = 5 ∨ k = 6 ∨ k = 7 ∨ k = 8 := by omega
              rcases this with rfl | rfl | rfl | rfl | rfl | rfl | rfl | rfl | rfl <;> decide
            have h6 : m < 2 ^ (64 - 7 * (k + 1)) := by
              refine Nat.lt_of_mul_lt_mul_left (a := 128 ^ (k + 1)) ?_
              rw [h5, Nat.mul_comm]; exact hb
            rw [← h5, Nat.mul_comm]
            exact Nat.mul_le_mul_left _ h6
          omega

theorem numR_ok {ys : List UInt8} {n : Nat} {r : List UInt8} (h : numR ys = .ok n r) : ys = lebL n ++ r ∧ n < 18446744073709551616 := by
  obtain ⟨m, hn, _, h1, h2⟩ := decL_ok ys 0 0 n r (by omega) (by decide) h
  have : m = n := by rw [hn, Nat.zero_add, Nat.pow_zero, Nat.mul_one]
  subst this
  exact ⟨h1, by simpa using h2⟩

theorem numD_ok {most n : Nat} {ys r : List UInt8} (h : numD most ys = .ok n r) : ys = lebL n ++ r ∧ n ≤ most ∧ n < 18446744073709551616 := by
  simp only [numD] at h
  split at h
  · cases h
  · cases h
  · rename_i n' r' hn
    split at h
    · cases h
    · simp only [Dr.ok.injEq] at h
      obtain ⟨rfl, rfl⟩ := h
      obtain ⟨h1, h2⟩ := numR_ok hn
      exact ⟨h1, by omega, h2⟩
end Go.Mv
namespace Go.Mv
open Go
section te
variable {P : Program} {ops : Array Oper} {p : Pst} {q : List Nat} {C : Ctx} {L M : Mem} {k : Nat} {tr : Tr} {E : Env}
variable {d : Nat} {ty : TypeId} {ps : String} {af : Array Edge} {g : Option (Nat × Bool)}
/-- defer f(..), in no round. -/
theorem TE_defer {f : Operand} {xs : Array Operand} {ats : Array TypeId} {fn : Fn} {fs cap : Array Value} {vs : List Value} (ho : ops[k]? = some ⟨none, .defer ⟨.value f, xs, ats⟩, ty, ps, af, g⟩) (hg : GOK ops E g)
    (hf : evalE E f = some (.func fn fs cap)) (ha : evalL E xs.toList = some vs)
    (h : TE P none ops p q ⟨C.N, { target := .fn fn cap, args := fs ++ vs.toArray } :: C.ds, C.w0, C.X⟩ L tr E M) : TE P none ops p q C L (.op k tr) E M := TE_intro fun a w hr hs => by
  have hl : ld ops q k = true := by simp [ld, ho]
  rw [TT_op, TS_loud ho hl]
  unfold wpOpIn
  simp only [ho]
  have hw : Region.wanted (⟨none, .defer ⟨.value f, xs, ats⟩, ty, ps, af, g⟩ : Oper) (yielded ops a.tmps) = true := GOK.wanted (o := ⟨none, .defer ⟨.value f, xs, ats⟩, ty, ps, af, g⟩) hg hr
  rw [if_pos hw]
  refine ⟨fun _ _ => trivial, ?_⟩
  have e : xs.map a.eval = vs.toArray := by apply Array.toList_inj.1; simpa using evalL_map (fun x u hu => hr.eval hu) _ _ ha
  have hrun : (Oper.semAt (Fw none).round a.eval ⟨none, .defer ⟨.value f, xs, ats⟩, ty, ps, af, g⟩).run P w = .ok (.defer { target := .fn fn cap, args := fs ++ vs.toArray }) w := by
    rw [show (Fw none).round = none from rfl, Oper.semAt_none]
    simp only [execOp, resolve, hr.eval hf, e, Deferred.ofValue]
    simp only [Sem.run_bind, Sem.run_pure, Result.andThen_ok]
  rw [hrun]
  refine ⟨hs.hp.right, ?_⟩
  exact h _ _ ⟨hr.size, by simp [hr.defers, Act.put], hr.get⟩ ⟨hs.fr, hs.hp⟩
end te
/-- A function's contract as a deferred call's. -/
def CallsDf (P : Program) (f : FuncId) (args : Array Value) (w : World) (R : Ending → World → Prop) : Prop :=
  CallsDIn (Fw none) 0 P f args .returning w fun e u' w' => u' = .returning ∧ R e w'

def retD (P : Program) (fn : Func) (R : Ending → World → Prop) : Act → World → Prop := fun a w => a.defers = [] ∧ ∃ v, (results fn a.tmps).run P w = .ok v w ∧ R (.returned v) w

def exitPD (P : Program) (fn : Func) (R : Ending → World → Prop) : Pst :=
  { n := retD P fn R, r := retD P fn R, x := fun _ _ _ => False, g := fun _ _ _ => False }

theorem fn_enterD {P : Program} {f : FuncId} {fn : Func} {c : Code} {args : List Value} {N : Nat} {w : World} {X : List Nat} {H : Mem} {post : Value → Mem → Prop} (hf : P.funcs[f]? = some fn) (hb : fn.body = some c) (hN : fn.ntmps = N) (hlen : Nat.ble args.length N = true) (hH : Hp H w)
    (h : PN ⟨N, [], w, X⟩ (WP P none c (exitPD P fn (Ret w X post))) (enum 0 args) H) : CallsDf P f args.toArray w (Ret w X post) := by
  refine callsDIn_of_wp hf hb trivial ?_ rfl
  have h0 := h { tmps := args.toArray ++ Array.replicate (fn.ntmps - args.toArray.size) undef, defers := [] } w ?_ ⟨Fr.refl w X, hH⟩
  · exact wp_of (p := exitPD P fn (Ret w X post)) (fun e a w q => by cases e <;> first | exact q | exact q.elim) h0
  · have hlen' : args.length ≤ N := by simpa using hlen
    refine ⟨by simp [hN]; omega, rfl, ?_⟩
    intro t v ht
    obtain ⟨_, h2⟩ := enum_get args 0 t v ht
    obtain ⟨hlt, h3⟩ := List.getElem?_eq_some_iff.1 h2
    simp only [Nat.sub_zero] at hlt h3
    rw [Array.getElem?_append_left (by simpa using hlt)]
    simpa using h2

section done
variable {P : Program} {fn : Func} {C : Ctx} {E : Env} {H : Mem} {post : Value → Mem → Prop} {X : List Nat}
theorem pn_doneD {N : Nat} {w : World} {l : List ResultVar} {vs : List Value} {H1 : Mem} (hl : fn.results = l.toArray) (hv : resE E l = some vs) (hp : post (tupV vs) H1) (hH : ∀ w, Hp H w → Hp H1 w) (hn : ∀ e ∈ H1, e.1 ∈ X ∨ w.heap.size ≤ e.1) :
    PN ⟨N, [], w, X⟩ (retD P fn (Ret w X post)) E H := fun _ w' hr hs => ⟨hr.defers, _, results_run hr w' hl hv, _, H1, rfl, hp, hs.fr, hH _ hs.hp, hn⟩

/-- How a frame leaves: with the deferred calls ds. -/
def LV (P : Program) (fn : Func) (C : Ctx) (R : Ending → World → Prop) (E : Env) (ds : List Deferred) (H : Mem) : Prop :=
  ∀ a w, Rep C.N [] E a → St C.w0 C.X H w → LeavesInM (Fw none) 0 P fn a.tmps R ds .returning w

variable {R : Ending → World → Prop} {ds : List Deferred}
theorem lv_ret (h : LV P fn C R E C.ds H) : PN C (retP P fn R) E H := fun a w hr hs => by
  unfold retP
  rw [hr.defers]
  exact h { a with defers := [] } w ⟨hr.size, rfl, hr.get⟩ hs

theorem lv_mark {D : Nat} (A B : Mem) (hAB : H = A ++ (D, .deferred (some [])) :: B) (hD : C.w0.heap.size ≤ D) (h : LV P fn C R E ds (A ++ B)) : LV P fn C R E ({ target := .collected D, args := #[] } :: ds) H := fun a w hr hs => by
  have hpm : Hp ((D, .deferred (some [])) :: (A ++ B)) w := hs.hp.perm (by rw [hAB]; exact List.perm_middle)
  have hget : w.heap[D]? = some (.deferred (some [])) := hpm.at_ (D, _) (by simp)
  refine ⟨by simp, .inl ⟨D, _, rfl, run_takeDeferred hget, ?_⟩⟩
  exact h a _ hr ⟨hs.fr.putObj D _ (.inr hD), (hpm.putObj (o' := .deferred none)).sub (List.sublist_cons_self _ _)⟩

theorem lv_call {f : FuncId} {args cap : Array Value} {post' : Value → Mem → Prop} (A B : Mem) (hAB : ∀ w, Hp H w → Hp (A ++ B) w) (hen : ∀ args w, (callFunc f args).run P w = .ok (.enter f args) w) (hX : ∀ e ∈ B, C.w0.heap.size ≤ e.1 ∨ e.1 ∈ C.X)
    (hc : ∀ w, Hp (A ++ B) w → CallsDf P f (args ++ cap) w (Ret w (keys B) post'))
    (h : ∀ v H1, post' v H1 → (∀ e ∈ H1, C.w0.heap.size ≤ e.1 ∨ e.1 ∈ C.X) → LV P fn C R E ds (A ++ H1)) : LV P fn C R E ({ target := .fn (.func f) cap, args := args } :: ds) H := fun a w hr hs => by
  have hH := hAB w hs.hp
  refine ⟨by simp, .inr ⟨fun h => by simp [Fw] at h, .func f, cap, f, args ++ cap, rfl, ?_, fun _ _ => trivial, ?_⟩⟩
  · simp only [invoke, hen]
  · refine CallsDIn.mono (hc w hH) ?_
    rintro e u' w' ⟨rfl, v, H1, rfl, hp, hfr, hH1, hnew⟩
    have hs' : St C.w0 C.X (A ++ B) w := ⟨hs.fr, hH⟩
    obtain ⟨h1, h2⟩ := hs'.after hX hfr hH1 hnew
    exact h v H1 hp h2 a w' hr h1

theorem lv_nil {v : Value} {H1 : Mem} {w0 : World} {N : Nat} {ds0 : List Deferred} (hv : ∀ a w, Rep N [] E a → St w0 X H w → (results fn a.tmps).run P w = .ok v w) (hp : post v H1) (hH : ∀ w, Hp H w → Hp H1 w) (hn : ∀ e ∈ H1, e.1 ∈ X ∨ w0.heap.size ≤ e.1) :
    LV P fn ⟨N, ds0, w0, X⟩ (Ret w0 X post) E [] H := fun a w hr hs => ⟨v, hv a w hr hs, v, H1, rfl, hp, hs.fr, hH w hs.hp, hn⟩

/-- Results, out of slots and cells. -/
def resF (P : Program) (E : Env) (H : Mem) : List ResultVar → List Value → Prop
  | [], vs => vs = []
  | .tmp t :: r, vs => ∃ v us, vs = v :: us ∧ E.get t = some v ∧ resF P E H r us
  | .cell b T :: r, vs => ∃ v us bb off, vs = v :: us ∧ E.get b = some (.pointer (some ⟨bb, off, none⟩)) ∧ (∀ w, Hp H w → (loadVar T ⟨bb, off, none⟩).run P w = .ok v w) ∧ resF P E H r us

theorem resF_run {P : Program} {N : Nat} {ds : List Deferred} {E : Env} {H : Mem} {a : Act} (hr : Rep N ds E a) (w : World) (hw : Hp H w) : ∀ (l : List ResultVar) (vs : List Value), resF P E H l vs →
    (l.mapM (m := Sem) fun | .tmp t => pure (a.tmps.getD t undef) | .cell b t => do loadVar t (← asAddr (a.tmps.getD b undef))).run P w = .ok vs w
  | [], vs, h => by simp only [resF] at h; subst h; rfl
  | .tmp t :: r, vs, h => by
    obtain ⟨v, us, rfl, h1, h2⟩ := h
    have ih := resF_run hr w hw r us h2
    have hv' : a.tmps.getD t undef = v := by simp [Array.getD_eq_getD_getElem?, hr.get t v h1]
    rw [List.mapM_cons]
    simp only [Sem.run_bind, Sem.run_pure, Result.andThen_ok, ih, hv']
  | .cell b T :: r, vs, h => by
    obtain ⟨v, us, bb, off, rfl, h1, hl, h2⟩ := h
    have ih := resF_run hr w hw r us h2
    have hv' : a.tmps.getD b undef = .pointer (some ⟨bb, off, none⟩) := by simp [Array.getD_eq_getD_getElem?, hr.get b _ h1]
    have hb := hl w hw
    have h3 : (do loadVar T (← asAddr (a.tmps.getD b undef))).run P w = .ok v w := by rw [hv']; simpa [asAddr] using hb
    rw [List.mapM_cons, Sem.run_bind]
    show Result.andThen ((do loadVar T (← asAddr (a.tmps.getD b undef))).run P w) _ = _
    rw [h3]
    simp only [Result.andThen_ok, Sem.run_bind, ih, Sem.run_pure]

theorem load_cell {P : Program} {H : Mem} {T : TypeId} {i bb off : Nat} {cs : Array Value} {t : TypeId} {fz : Nat × Nat} {v : Value} (ha : ∀ w, (isAgg T).run P w = .ok false w) (hi : H[i]? = some (bb, .cells cs t fz)) (hv : cget cs off = some v) : ∀ w, Hp H w → (loadVar T ⟨bb, off, none⟩).run P w = .ok v w := fun w hw => by
  rw [cget_eq] at hv
  have hc := (cell_of hw (off := off) hi).trans hv
  simp [loadVar, ha, hc]
theorem load_agg {P : Program} {H : Mem} {T : TypeId} {i bb off n : Nat} {cs : Array Value} {t : TypeId} {fz : Nat × Nat} {v : Value} (ha : ∀ w, (isAgg T).run P w = .ok true w) (hz : ∀ w, (sizeOf T).run P w = .ok n w) (hi : H[i]? = some (bb, .cells cs t fz)) (hn : off + n ≤ cs.size) (hv : Value.agg (cs.extract off (off + n)) = v) : ∀ w, Hp H w → (loadVar T ⟨bb, off, none⟩).run P w = .ok v w := fun w hw => by
  have hc := run_loadCells_agg (P := P) (w := w) (b := bb) (off := off) (n := n) (cs := cs) (fun j _ => cell_of hw (off := off + j) hi) hn
  subst hv
  simp [loadVar, ha, hz, hc]

theorem resultsF_run {P : Program} {fn : Func} {N : Nat} {ds : List Deferred} {E : Env} {H : Mem} {a : Act} (hr : Rep N ds E a) (w : World) (hw : Hp H w) {l : List ResultVar} (hl : fn.results = l.toArray) {vs : List Value} (h : resF P E H l vs) :
    (results fn a.tmps).run P w = .ok (tupV vs) w := by
  have := resF_run hr w hw l vs h
  unfold results
  rw [hl, Array.mapM_eq_mapM_toList]
  simp only [Sem.run_bind, Sem.run_map]
  erw [this]
  simp only [Result.andThen_ok, Sem.run_pure]
  rcases vs with _ | ⟨v, _ | ⟨u, r⟩⟩ <;> simp [tupV]

/-- The end: no deferred calls are left; results out of slots and cells. -/
theorem lv_end {l : List ResultVar} {vs : List Value} {H1 : Mem} {w0 : World} {N : Nat} {ds0 : List Deferred} (hl : fn.results = l.toArray) (hv : resF P E H l vs) (hp : post (tupV vs) H1) (hH : ∀ w, Hp H w → Hp H1 w) (hn : ∀ e ∈ H1, e.1 ∈ X ∨ w0.heap.size ≤ e.1) :
    LV P fn ⟨N, ds0, w0, X⟩ (Ret w0 X post) E [] H :=
  lv_nil (fun _ w hr hs => resultsF_run hr w hs.hp hl hv) hp hH hn
/-- The end of a function without deferred calls. -/
theorem pn_doneF {l : List ResultVar} {vs : List Value} {H1 : Mem} {w0 : World} {N : Nat} (hl : fn.results = l.toArray) (hv : resF P E H l vs) (hp : post (tupV vs) H1) (hH : ∀ w, Hp H w → Hp H1 w) (hn : ∀ e ∈ H1, e.1 ∈ X ∨ w0.heap.size ≤ e.1) :
    PN ⟨N, [], w0, X⟩ (retP P fn (Ret w0 X post)) E H := lv_ret (lv_end hl hv hp hH hn)
end done
end Go.Mv
namespace Go.Mv
open Go
theorem allC {Q : Nat → Prop} {a : Nat} {o : Obj} {H : Mem} (h1 : Q a) (h2 : ∀ e ∈ H, Q e.1) : ∀ e ∈ (a, o) :: H, Q e.1 := fun e he => by
  rcases List.mem_cons.1 he with rfl | he
  · exact h1
  · exact h2 e he
theorem allN {Q : Nat → Prop} : ∀ e ∈ ([] : Mem), Q e.1 := fun e he => by simp at he
theorem allA {Q : Nat → Prop} {A B : Mem} (h1 : ∀ e ∈ A, Q e.1) (h2 : ∀ e ∈ B, Q e.1) : ∀ e ∈ A ++ B, Q e.1 := fun e he => (List.mem_append.1 he).elim (h1 e) (h2 e)

theorem get_putL : ∀ (vs : List Value) (cs : Array Value) (off i : Nat), off + vs.length ≤ cs.size → (putL cs off vs)[i]? = if off ≤ i ∧ i < off + vs.length then vs[i - off]? else cs[i]?
  | [], cs, off, i, _ => by
    rw [if_neg (by simp only [List.length_nil]; omega)]; rfl
  | v :: r, cs, off, i, h => by
    simp only [List.length_cons] at h
    rw [putL, get_putL r _ (off + 1) i (by rw [Array.size_setIfInBounds]; omega)]
    by_cases h1 : off + 1 ≤ i ∧ i < off + 1 + r.length
    · rw [if_pos h1, if_pos (by simp only [List.length_cons]; omega), show i - off = (i - (off + 1)) + 1 from by omega, List.getElem?_cons_succ]
    · rw [if_neg h1]
      by_cases h2 : off = i
      · subst h2
        rw [Array.getElem?_setIfInBounds_self_of_lt (by omega), if_pos (by simp only [List.length_cons]; omega), Nat.sub_self]; rfl
      · rw [Array.getElem?_setIfInBounds_ne h2, if_neg (by simp only [List.length_cons]; omega)]
theorem putL_whole {cs : Array Value} {vs : List Value} (h : vs.length = cs.size) : putL cs 0 vs = vs.toArray := by
  apply Array.ext_getElem?
  intro i
  rw [get_putL vs cs 0 i (by omega)]
  by_cases hi : i < vs.length
  · rw [if_pos (by omega)]; simp
  · rw [if_neg (by omega), Array.getElem?_eq_none (by omega), Array.getElem?_eq_none (by simp; omega)]
section rd
variable {P : Program} {ty : TypeId} {E : Env} {L : Mem} {x y : Operand} {T U : TypeId}
theorem RD.orU {a b : Nat} (hx : evalE E x = some (.int .u64 (a : Int))) (hy : evalE E y = some (.int .u64 (b : Int))) (ha : a < 18446744073709551616) (hb : b < 18446744073709551616) : RD P (.binOp .or T x y U) ty E L (.int .u64 ((a ||| b : Nat) : Int)) :=
  RD.bin .or (fun w => by simp [eqGuard, binOp, intBits_or, u64_or_nat a b ha hb]) hx hy
end rd
theorem pow128 (k : Nat) : (128 : Nat) ^ k = 2 ^ (7 * k) := by rw [Nat.pow_mul]
theorem rem128 (c : Nat) : Value.int .u8 ((c : Int).tmod 128) = .int .u8 ((c % 128 : Nat) : Int) := by
  rw [Int.tmod_eq_emod_of_nonneg (by omega)]; simp
theorem shl_low {m k : Nat} (hk : k ≤ 9) (h : m * 128 ^ k < 18446744073709551616) : Value.int .u64 (IntKind.u64.wrap ((m : Int) * 2 ^ min (7 * (k : Int)).toNat IntKind.u64.bits)) = .int .u64 ((m * 128 ^ k : Nat) : Int) := by
  have e1 : (7 * (k : Int)).toNat = 7 * k := by omega
  have e2 : min (7 * k) IntKind.u64.bits = 7 * k := Nat.min_eq_left (by show 7 * k ≤ 64; omega)
  rw [e1, e2, u64_wrap]
  have e3 : (m : Int) * 2 ^ (7 * k) = ((m * 128 ^ k : Nat) : Int) := by rw [pow128]; push_cast; rfl
  rw [e3, Int.emod_eq_of_lt (by omega) (by omega)]
theorem or_low {a m k : Nat} (h : a < 128 ^ k) : a ||| m * 128 ^ k = a + m * 128 ^ k := by
  rw [pow128] at h ⊢
  rw [Nat.or_comm, Nat.mul_comm m, ← Nat.two_pow_add_eq_or_of_lt h, Nat.add_comm]
theorem low_lt {c k : Nat} (hk : k ≤ 9) (h : ¬ ((k = 9 ∧ (c % 128 > 1 ∨ ¬ c < 128)) ∨ (c < 128 ∧ c % 128 = 0 ∧ 0 < k))) : c % 128 * 128 ^ k < 18446744073709551616 := by
  by_cases h9 : k = 9
  · subst h9
    have h1 : c % 128 ≤ 1 := by omega
    have h2 : c % 128 * 128 ^ 9 ≤ 1 * 128 ^ 9 := Nat.mul_le_mul_right _ h1
    have h3 : (128 : Nat) ^ 9 = 9223372036854775808 := by decide
    omega
  · have h1 : (128 : Nat) ^ k ≤ 128 ^ 8 := Nat.pow_le_pow_right (by decide) (by omega)
    have h2 : c % 128 * 128 ^ k ≤ 127 * 128 ^ 8 := Nat.mul_le_mul (by omega) h1
    have h3 : 127 * (128 : Nat) ^ 8 < 18446744073709551616 := by decide
    omega
theorem acc_lt {c k a : Nat} (ha : a < 128 ^ k) : a + c % 128 * 128 ^ k < 128 ^ (k + 1) := by
  have h2 : c % 128 * 128 ^ k ≤ 127 * 128 ^ k := Nat.mul_le_mul_right _ (by omega)
  rw [Nat.pow_succ]; omega
theorem acc_lt64 {k a : Nat} (hk : k ≤ 9) (ha : a < 128 ^ k) : a < 18446744073709551616 := by
  have h1 : (128 : Nat) ^ k ≤ 128 ^ 9 := Nat.pow_le_pow_right (by decide) hk
  have h3 : (128 : Nat) ^ 9 < 18446744073709551616 := by decide
  omega

theorem pn_perm {C : Ctx} {K : Act → World → Prop} {E : Env} {H : Mem} (H' : Mem) (hp : ∀ w, Hp H w → Hp H' w) (h : PN C K E H') : PN C K E H := fun a w hr hs => h a w hr ⟨hs.fr, hp w hs.hp⟩

section te
variable {P : Program} {rd : Option Nat} {ops : Array Oper} {p : Pst} {q : List Nat} {C : Ctx} {L M : Mem} {k : Nat} {tr : Tr} {E : Env}
variable {d : Nat} {ty : TypeId} {ps : String} {af : Array Edge} {g : Option (Nat × Bool)}
theorem TE_yieldT {f : Operand} {xs : Array Operand} {ats : Array TypeId} {l : Nat} {vs : List Value} {post : Value → Mem → Prop} (A R : Mem) (hM : M = A ++ R) (ho : ops[k]? = some ⟨some d, .call ⟨.value f, xs, ats⟩, ty, ps, af, g⟩) (hl : ld ops q k = true) (hg : GOK ops E g)
    (hf : evalE E f = some (.func (.yield l) #[] #[])) (ha : evalL E xs.toList = some vs) (hd : Nat.blt d C.N = true) (hX : ∀ e ∈ R, C.w0.heap.size ≤ e.1 ∨ e.1 ∈ C.X)
    (hc : ∀ w, St C.w0 C.X (M ++ L) w → Yd P l vs w (Ret w (keys R) post))
    (h : ∀ v H1, post v H1 → (∀ e ∈ H1, C.w0.heap.size ≤ e.1 ∨ e.1 ∈ C.X) → TE P rd ops p q C L tr ((d, v) :: E) (A ++ H1)) : TE P rd ops p q C L (.op k tr) E M :=
  TE_yield A.length ho hl hg hf ha hd (by rw [hM]; exact List.take_left) (by rw [hM]; exact List.drop_left) hX hc h
theorem set_same {M : Mem} {i : Nat} {x : Nat × Obj} (h : M[i]? = some x) : M.set i x = M := by
  apply List.ext_getElem?
  intro j
  by_cases hj : i = j
  · subst hj
    obtain ⟨hlt, hg⟩ := List.getElem?_eq_some_iff.1 h
    simp [hlt, hg]
  · simp [hj]
end te
end Go.Mv
namespace Go.Mv
open Go
def bldV (l : List UInt8) : SnkS → Value
  | none => .slice none 0 0
  | some (b, cap, _) => .slice (some ⟨b, 0, none⟩) l.length cap
def bldM (u : TypeId) (l : List UInt8) : SnkS → Mem
  | none => []
  | some (b, _, tl) => [(b, .cells (bcells l ++ tl).toArray u (0, 0))]

theorem RetB.bld {u : TypeId} {v : Value} {H1 : Mem} {ys : List UInt8} (h : RetB u v H1 ys) : ∃ st, SnkOk ys st ∧ v = bldV ys st ∧ H1 = bldM u ys st := by
  rcases h with ⟨b, cap, tl, rfl, rfl, h1, h2, h3⟩ | ⟨rfl, rfl, rfl⟩
  · exact ⟨some (b, cap, tl), ⟨h1, h2, h3⟩, rfl, rfl⟩
  · exact ⟨none, rfl, rfl, rfl⟩
theorem RetB.of_bld {u : TypeId} {ys : List UInt8} {st : SnkS} (h : SnkOk ys st) : RetB u (bldV ys st) (bldM u ys st) ys := by
  rcases st with _ | ⟨b, cap, tl⟩
  · obtain rfl : ys = [] := h
    exact .inr ⟨rfl, rfl, rfl⟩
  · exact .inl ⟨b, cap, tl, rfl, rfl, h.1, h.2.1, h.2.2⟩
section te
variable {P : Program} {rd : Option Nat} {ops : Array Oper} {p : Pst} {q : List Nat} {C : Ctx} {L M : Mem} {k : Nat} {tr : Tr} {E : Env}
variable {d : Nat} {ty : TypeId} {ps : String} {af : Array Edge} {g : Option (Nat × Bool)}
end te
end Go.Mv
namespace Go.Mv
open Go
section rd
variable {P : Program} {ty : TypeId} {E : Env} {L : Mem} {x y : Operand} {T : TypeId} {k : IntKind}
theorem RD.indexStr {s : ByteArray} {i : Nat} {c : UInt8} {z : Int} (hT : P.underlying T = some .string) (hx : evalE E x = some (.string s)) (hy : evalE E y = some (.int k z)) (hz : z = (i : Int)) (hc : s.data.toList[i]? = some c) : RD P (.index T x y) ty E L (bcell c) := fun ρ w _ _ _ _ hρ _ => by
  subst hz
  obtain ⟨hlt, rfl⟩ := List.getElem?_eq_some_iff.1 hc
  have h1 : i < s.size := by simpa using hlt
  have h2 : s[i]? = some (s.data.toList[i]) := by
    rw [getElem?_pos s i h1]; simp [ByteArray.getElem_eq_getElem_data]
  simp [execOp, hρ _ _ hx, hρ _ _ hy, Instr.index, asIntOf, run_underlying hT, h2, bcell]
theorem RD.sliceStr {s : ByteArray} {lo hi : Option Operand} {l h : Nat} (hT : P.underlying T = some .string) (hx : evalE E x = some (.string s))
    (hlo : match lo with | none => l = 0 | some o => ∃ k, evalE E o = some (.int k l)) (hhi : match hi with | none => h = s.size | some o => ∃ k, evalE E o = some (.int k h)) (h1 : l ≤ h) (h2 : h ≤ s.size) : RD P (.slice T x lo hi none) ty E L (.string (s.extract l h)) := fun ρ w _ _ _ _ hρ _ => by
  have hTu := run_underlying (w := w) hT
  cases lo with
  | none =>
    subst hlo
    cases hi with
    | none => subst hhi; simp [execOp, Instr.sliceAt, Instr.slice, Instr.sliceBounds, hTu, hρ _ _ hx]
    | some o => obtain ⟨k, ho⟩ := hhi; simp [execOp, Instr.sliceAt, Instr.slice, Instr.sliceBounds, Instr.sliceBound, asIntOf, hTu, hρ _ _ hx, hρ _ _ ho, h2]
  | some o' =>
    obtain ⟨k', ho'⟩ := hlo
    cases hi with
    | none => subst hhi; simp [execOp, Instr.sliceAt, Instr.slice, Instr.sliceBounds, Instr.sliceBound, asIntOf, hTu, hρ _ _ hx, hρ _ _ ho', h1]
    | some o => obtain ⟨k, ho⟩ := hhi; simp [execOp, Instr.sliceAt, Instr.slice, Instr.sliceBounds, Instr.sliceBound, asIntOf, hTu, hρ _ _ hx, hρ _ _ ho, hρ _ _ ho', h1, h2]
end rd
end Go.Mv

namespace Go.Mv
open Go
open Classical in
noncomputable def one (a e : Nat × Obj) : Nat := if a = e then 1 else 0
theorem one_self (a : Nat × Obj) : one a a = 1 := by unfold one; rw [if_pos rfl]
theorem one_ne {a e : Nat × Obj} (h : a ≠ e) : one a e = 0 := by unfold one; rw [if_neg h]
noncomputable def cnt (a : Nat × Obj) : Mem → Nat
  | [] => 0
  | e :: r => one a e + cnt a r
@[simp] theorem cnt_nil (a : Nat × Obj) : cnt a [] = 0 := rfl
@[simp] theorem cnt_cons (a e : Nat × Obj) (r : Mem) : cnt a (e :: r) = one a e + cnt a r := rfl
@[simp] theorem cnt_append (a : Nat × Obj) : ∀ A B : Mem, cnt a (A ++ B) = cnt a A + cnt a B
  | [], B => by rw [List.nil_append, cnt_nil, Nat.zero_add]
  | e :: r, B => by rw [List.cons_append, cnt_cons, cnt_cons, cnt_append a r B, Nat.add_assoc]
theorem cnt_mem {a : Nat × Obj} : ∀ {H : Mem}, 0 < cnt a H → a ∈ H
  | [], h => by rw [cnt_nil] at h; omega
  | e :: r, h => by
    by_cases he : a = e
    · rw [he]; exact List.mem_cons_self
    · rw [cnt_cons, one_ne he, Nat.zero_add] at h
      exact List.mem_cons_of_mem _ (cnt_mem h)
theorem mem_cnt {a : Nat × Obj} : ∀ {H : Mem}, a ∈ H → 0 < cnt a H
  | [], h => by simp at h
  | e :: r, h => by
    rw [cnt_cons]
    rcases List.mem_cons.1 h with rfl | h
    · rw [one_self]; omega
    · have := mem_cnt h; omega
theorem Hp.sp : ∀ {H' H : Mem} {w : World}, Hp H w → (∀ a, cnt a H' ≤ cnt a H) → Hp H' w
  | [], _, w, _, _ => Hp.nil w
  | e :: r, H, w, h, hc => by
    have he : e ∈ H := cnt_mem (by have := hc e; rw [cnt_cons, one_self] at this; omega)
    obtain ⟨A, B, rfl⟩ := List.append_of_mem he
    have hp : Hp (e :: (A ++ B)) w := h.perm List.perm_middle
    have hle : ∀ a, cnt a r ≤ cnt a (A ++ B) := fun a => by
      have := hc a
      rw [cnt_cons, cnt_append, cnt_cons] at this
      rw [cnt_append]; omega
    have hr : Hp r w := Hp.sp (hp.sub (List.sublist_cons_self _ _)) hle
    refine ⟨fun f hf => ?_, List.pairwise_cons.2 ⟨fun f hf => (List.pairwise_cons.1 hp.ne).1 f ?_, hr.ne⟩⟩
    · rcases List.mem_cons.1 hf with rfl | hf
      · exact hp.at_ f List.mem_cons_self
      · exact hr.at_ f hf
    · exact cnt_mem (Nat.lt_of_lt_of_le (mem_cnt hf) (hle f))
theorem pn_sp {C : Ctx} {K : Act → World → Prop} {E : Env} {H : Mem} (H' : Mem) (hc : ∀ a, cnt a H' ≤ cnt a H) (h : PN C K E H') : PN C K E H := pn_perm H' (fun _ hw => hw.sp hc) h

@[simp] theorem pick_nil (H : Mem) : pick H [] = [] := rfl
@[simp] theorem pick_cons (H : Mem) (i : Nat) (is : List Nat) : pick H (i :: is) = H.getD i (0, default) :: pick H is := rfl

theorem pn_againS {C : Ctx} {E : Env} {H : Mem} {σ : Type} {EE : σ → Env} {HH : σ → Mem} {I : σ → Prop} {μ : σ → Nat} {n : Nat} (s' : σ) (hI : I s') (hm : μ s' < n) (hE : Keeps E (EE s')) (hc : ∀ a, cnt a (HH s') ≤ cnt a H) :
    PN C (fun a w => ∃ s', I s' ∧ μ s' < n ∧ Rep C.N C.ds (EE s') a ∧ St C.w0 C.X (HH s') w) E H := fun _ _ hr hs => ⟨s', hI, hm, hr.keeps hE, hs.fr, hs.hp.sp hc⟩
theorem pn_loopS {P : Program} {rd : Option Nat} {p : Pst} {C : Ctx} {E : Env} {H : Mem} {σ : Type} {c : Code} (EE : σ → Env) (HH : σ → Mem) (I : σ → Prop) (μ : σ → Nat) (s0 : σ) (h0 : I s0) (hE : Keeps E (EE s0)) (hH : ∀ a, cnt a (HH s0) ≤ cnt a H)
    (h : ∀ s, I s → PN C (WP P rd c { p with n := fun a w => ∃ s', I s' ∧ μ s' < μ s ∧ Rep C.N C.ds (EE s') a ∧ St C.w0 C.X (HH s') w }) (EE s) (HH s)) :
    PN C (WP P rd (.loop c) p) E H := pn_sp (HH s0) hH (pn_loop EE HH I μ s0 h0 hE (List.Sublist.refl _) h)
/-- The end of a function; what it leaves lies in what is known. -/
theorem pn_doneS {P : Program} {fn : Func} {E : Env} {H : Mem} {post : Value → Mem → Prop} {X : List Nat} {N : Nat} {w : World} {l : List ResultVar} {vs : List Value} (H1 : Mem) (hl : fn.results = l.toArray) (hv : resE E l = some vs) (hp : post (tupV vs) H1) (hc : ∀ a, cnt a H1 ≤ cnt a H) (hn : ∀ e ∈ H1, w.heap.size ≤ e.1 ∨ e.1 ∈ X) :
    PN ⟨N, [], w, X⟩ (retP P fn (Ret w X post)) E H := pn_sp H1 hc (pn_done hl hv hp (List.Sublist.refl _) (fun e he => (hn e he).symm))

def cat {α : Type} (enc : α → List Value) (l : List α) : List Value := l.flatMap enc
section cat
variable {α : Type} {enc : α → List Value} {sz : Nat}
@[simp] theorem cat_nil : cat enc [] = [] := rfl
@[simp] theorem cat_cons (x : α) (l : List α) : cat enc (x :: l) = enc x ++ cat enc l := by simp [cat]
@[simp] theorem cat_append (l m : List α) : cat enc (l ++ m) = cat enc l ++ cat enc m := by simp [cat]
theorem cat_len (hk : ∀ x, (enc x).length = sz) : ∀ l : List α, (cat enc l).length = l.length * sz
  | [] => by simp
  | x :: l => by rw [cat_cons, List.length_append, hk, cat_len hk l, List.length_cons, Nat.add_mul, Nat.one_mul, Nat.add_comm]
theorem cat_get (hk : ∀ x, (enc x).length = sz) : ∀ (l : List α) (i j : Nat) (x : α), l[i]? = some x → j < sz → (cat enc l)[i * sz + j]? = (enc x)[j]?
  | [], i, j, x, h, _ => by simp at h
  | y :: l, 0, j, x, h, hj => by
    simp only [List.getElem?_cons_zero, Option.some.injEq] at h
    subst h
    rw [cat_cons, Nat.zero_mul, Nat.zero_add, List.getElem?_append_left (by rw [hk]; exact hj)]
  | y :: l, i + 1, j, x, h, hj => by
    rw [List.getElem?_cons_succ] at h
    rw [cat_cons, List.getElem?_append_right (by rw [hk, Nat.add_mul]; omega), hk, show (i + 1) * sz + j - sz = i * sz + j from by rw [Nat.add_mul]; omega]
    exact cat_get hk l i j x h hj
theorem cat_one (h1 : ∀ x, ∀ v ∈ enc x, v.oneCell' = true) (l : List α) : ∀ v ∈ cat enc l, v.oneCell' = true := fun v hv => by
  obtain ⟨x, _, hx⟩ := List.mem_flatMap.1 hv
  exact h1 x v hx
theorem cat_out (hk : ∀ x, (enc x).length = sz) (hs : 0 < sz) {l : List α} {t : Nat} {u : Value} (h : (cat enc l)[t]? = some u) : ∃ x, l[t / sz]? = some x ∧ (enc x)[t % sz]? = some u ∧ t / sz < l.length := by
  obtain ⟨hlt, _⟩ := List.getElem?_eq_some_iff.1 h
  rw [cat_len hk] at hlt
  have hd : t / sz < l.length := by rwa [Nat.div_lt_iff_lt_mul hs]
  refine ⟨l[t / sz], List.getElem?_eq_getElem hd, ?_, hd⟩
  rw [← cat_get hk l (t / sz) (t % sz) _ (List.getElem?_eq_getElem hd) (Nat.mod_lt _ hs), Nat.mul_comm, Nat.div_add_mod]
  exact h
end cat
/-- A slice of such that can be read, and parted. -/
def Rdx {α : Type} (sz : Nat) (enc : α → List Value) (H : Mem) (v : Value) (xs : List α) : Prop :=
  (v = .slice none 0 0 ∧ xs = []) ∨ ∃ b off cap, v = .slice (some ⟨b, off, none⟩) xs.length cap ∧ xs.length ≤ cap ∧ ∀ w, Hp H w → ∀ i x, xs[i]? = some x → ∀ j u, (enc x)[j]? = some u → w.cell? ⟨b, off + i * sz + j, none⟩ = some u

section rdx
variable {α : Type} {sz : Nat} {enc : α → List Value} {H H' : Mem} {v : Value} {xs : List α}
theorem Rdx.mono (h : Rdx sz enc H v xs) (hs : ∀ w, Hp H' w → Hp H w) : Rdx sz enc H' v xs := by
  rcases h with h | ⟨b, off, cap, h1, h2, h3⟩
  · exact .inl h
  · exact .inr ⟨b, off, cap, h1, h2, fun w hw => h3 w (hs w hw)⟩
theorem Rdx.nil : Rdx sz enc H (.slice none 0 0) [] := .inl ⟨rfl, rfl⟩
theorem Rdx.shape (h : Rdx sz enc H v xs) : ∃ a c, v = .slice a xs.length c := by
  rcases h with ⟨rfl, rfl⟩ | ⟨b, off, cap, rfl, _, _⟩
  · exact ⟨none, 0, rfl⟩
  · exact ⟨_, _, rfl⟩
theorem add_none (b off j : Nat) : (⟨b, off, none⟩ : Addr).add j = ⟨b, off + j, none⟩ := by
  unfold Addr.add; split
  · simp
  · rfl
theorem Rdx.blk (hk : ∀ x, (enc x).length = sz) {i b c n : Nat} {tl : List Value} {t : TypeId} {fz : Nat × Nat} (hi : H[i]? = some (b, .cells (cat enc xs ++ tl).toArray t fz)) (hn : n = xs.length) (hc : xs.length ≤ c) : Rdx sz enc H (.slice (some ⟨b, 0, none⟩) n c) xs := by
  subst hn
  refine .inr ⟨b, 0, c, rfl, hc, fun w hw k x hx j u hu => ?_⟩
  have hj : j < sz := by rw [← hk x]; exact (List.getElem?_eq_some_iff.1 hu).1
  have h1 := cat_get hk xs k j x hx hj
  rw [hu] at h1
  obtain ⟨hlt, _⟩ := List.getElem?_eq_some_iff.1 h1
  rw [cell_of hw hi, Nat.zero_add]
  simp only [List.getElem?_toArray]
  rw [List.getElem?_append_left hlt, h1]
theorem Rdx.src (hk : ∀ x, (enc x).length = sz) (hs : 0 < sz) {C : Ctx} (h : Rdx sz enc H v xs) (hne : xs ≠ []) (hm : ∀ w, Hp H' w → Hp H w) : Src C H' v xs.length (cat enc xs) := by
  rcases h with ⟨_, h⟩ | ⟨b, off, cap, rfl, h1, h2⟩
  · exact absurd h hne
  · refine ⟨⟨b, off, none⟩, cap, rfl, fun w hw t u hu => ?_⟩
    obtain ⟨x, hx, hu', _⟩ := cat_out hk hs hu
    rw [add_none]
    have := h2 w (hm w hw.hp) _ x hx _ u hu'
    rwa [Nat.add_assoc, show t / sz * sz + t % sz = t from by rw [Nat.mul_comm]; exact Nat.div_add_mod t sz] at this

def subVx (sz l h : Nat) : Value → Value
  | .slice (some ⟨b, off, _⟩) _ cap => .slice (some ⟨b, if cap = l then off else off + l * sz, none⟩) (h - l) (cap - l)
  | v => v
theorem Rdx.sub (h : Rdx sz enc H v xs) {l r : Nat} (h1 : l ≤ r) (h2 : r ≤ xs.length) : Rdx sz enc H (subVx sz l r v) ((xs.take r).drop l) := by
  rcases h with ⟨rfl, rfl⟩ | ⟨b, off, cap, rfl, h3, h4⟩
  · exact .inl ⟨rfl, by simp⟩
  · refine .inr ⟨b, if cap = l then off else off + l * sz, cap - l, ?_, ?_, ?_⟩
    · simp only [subVx, List.length_drop, List.length_take, Nat.min_eq_left h2]
    · simp only [List.length_drop, List.length_take]; omega
    · intro w hw i x hi j u hu
      obtain ⟨hlt, _⟩ := List.getElem?_eq_some_iff.1 hi
      simp only [List.length_drop, List.length_take] at hlt
      rw [List.getElem?_drop, List.getElem?_take_of_lt (by omega)] at hi
      rw [if_neg (show ¬ cap = l by omega)]
      have := h4 w hw _ x hi j u hu
      rwa [Nat.add_mul, ← Nat.add_assoc] at this
end rdx
section rd
variable {P : Program} {ty : TypeId} {E : Env} {L : Mem} {v u : Value} {x y z : Operand} {T U : TypeId}
theorem RD.lenX {α : Type} {sz : Nat} {enc : α → List Value} {H : Mem} {xs : List α} {e : TypeId} (hT : ∀ w, (underlying T).run P w = .ok (.slice e) w) (hx : evalE E x = some v) (hb : Rdx sz enc H v xs) : RD P (.call ⟨.builtin .len, #[x], #[T]⟩) ty E L (.int .i64 xs.length) := by
  obtain ⟨a, c, rfl⟩ := hb.shape
  exact RD.len_slice hT hx
/-- An element's address. -/
theorem RD.indexX {b off len cap sz : Nat} {el : TypeId} {k : IntKind} {i : Nat} {z : Int} (hT : ∀ w, (underlying T).run P w = .ok (.slice el) w) (hz : ∀ w, (sizeOf el).run P w = .ok sz w) (hx : evalE E x = some (.slice (some ⟨b, off, none⟩) len cap)) (hy : evalE E y = some (.int k z)) (hi : z = (i : Int)) (h1 : i < len) :
    RD P (.indexAddr T x y) ty E L (.pointer (some ⟨b, off + i * sz, none⟩)) := by
  subst hi
  exact RD.indexAddrS hT hz hx hy (by omega) (by omega)
/-- Several cells that are known to be there. -/
theorem RD.loadX {b off n : Nat} {vs : List Value} (ha : ∀ w, (isAgg T).run P w = .ok true w) (hs : ∀ w, (sizeOf T).run P w = .ok n w) (hx : evalE E x = some (.pointer (some ⟨b, off, none⟩))) (hn : vs.length = n) (hc : ∀ w, Hp L w → ∀ j u, vs[j]? = some u → w.cell? ⟨b, off + j, none⟩ = some u) :
    RD P (.load T x) ty E L (.agg vs.toArray) := fun ρ w _ _ _ _ hρ hL => by
  have h := run_loadCells_list (P := P) w ⟨b, off, none⟩ vs (fun j u hj => by rw [add_none]; exact hc w hL j u hj)
  rw [hn] at h
  simp [execOp, hρ _ _ hx, Instr.loadAt, Instr.sureAddr, loadVar, ha, hs, h]
theorem RD.sliceX {α : Type} {sz : Nat} {enc : α → List Value} {H : Mem} {xs : List α} {el : TypeId} {lo hi : Option Operand} {l h : Nat} (hT : ∀ w, (underlying T).run P w = .ok (.slice el) w) (hz : ∀ w, (sizeOf el).run P w = .ok sz w) (hx : evalE E x = some v) (hb : Rdx sz enc H v xs)
    (hlo : match lo with | none => l = 0 | some o => ∃ k, evalE E o = some (.int k l)) (hhi : match hi with | none => h = xs.length | some o => ∃ k, evalE E o = some (.int k h)) (h1 : l ≤ h) (h2 : h ≤ xs.length) :
    RD P (.slice T x lo hi none) ty E L (subVx sz l h v) := fun ρ w _ _ _ _ hρ _ => by
  rcases hb with ⟨rfl, rfl⟩ | ⟨b, off, cap, rfl, h3, h4⟩
  · have h0 : h = 0 := by simpa using h2
    subst h0
    have l0 : l = 0 := by omega
    subst l0
    cases lo with
    | none =>
      cases hi with
      | none => simp [execOp, Instr.sliceAt, Instr.slice, Instr.sliceBounds, hT, hz, hρ _ _ hx, subVx]
      | some o =>
        obtain ⟨k, ho⟩ := hhi
        simp [execOp, Instr.sliceAt, Instr.slice, Instr.sliceBounds, Instr.sliceBound, asIntOf, hT, hz, hρ _ _ hx, hρ _ _ ho, subVx]
    | some o' =>
      obtain ⟨k', ho'⟩ := hlo
      cases hi with
      | none => simp [execOp, Instr.sliceAt, Instr.slice, Instr.sliceBounds, Instr.sliceBound, asIntOf, hT, hz, hρ _ _ hx, hρ _ _ ho', subVx]
      | some o =>
        obtain ⟨k, ho⟩ := hhi
        simp [execOp, Instr.sliceAt, Instr.slice, Instr.sliceBounds, Instr.sliceBound, asIntOf, hT, hz, hρ _ _ hx, hρ _ _ ho, hρ _ _ ho', subVx]
  · have h2' : h ≤ cap := by omega
    cases lo with
    | none =>
      subst hlo
      cases hi with
      | none => subst hhi; simp [execOp, Instr.sliceAt, Instr.slice, Instr.sliceBounds, hT, hz, hρ _ _ hx, Addr.add, subVx]
      | some o =>
        obtain ⟨k, ho⟩ := hhi
        simp [execOp, Instr.sliceAt, Instr.slice, Instr.sliceBounds, Instr.sliceBound, asIntOf, hT, hz, hρ _ _ hx, hρ _ _ ho, Addr.add, h2', subVx]
    | some o' =>
      obtain ⟨k', ho'⟩ := hlo
      by_cases hc : cap = l
      · cases hi with
        | none =>
          subst hhi
          simp [execOp, Instr.sliceAt, Instr.slice, Instr.sliceBounds, Instr.sliceBound, asIntOf, hT, hz, hρ _ _ hx, hρ _ _ ho', h1, subVx, hc]
        | some o =>
          obtain ⟨k, ho⟩ := hhi
          have : h ≤ l := by omega
          simp [execOp, Instr.sliceAt, Instr.slice, Instr.sliceBounds, Instr.sliceBound, asIntOf, hT, hz, hρ _ _ hx, hρ _ _ ho, hρ _ _ ho', h1, this, subVx, hc]
      · cases hi with
        | none =>
          subst hhi
          simp [execOp, Instr.sliceAt, Instr.slice, Instr.sliceBounds, Instr.sliceBound, asIntOf, hT, hz, hρ _ _ hx, hρ _ _ ho', h1, add_none, subVx, hc]
        | some o =>
          obtain ⟨k, ho⟩ := hhi
          simp [execOp, Instr.sliceAt, Instr.slice, Instr.sliceBounds, Instr.sliceBound, asIntOf, hT, hz, hρ _ _ hx, hρ _ _ ho, hρ _ _ ho', h1, h2', add_none, subVx, hc]
end rd
def bldVx {α : Type} (l : List α) : SnkS → Value
  | none => .slice none 0 0
  | some (b, cap, _) => .slice (some ⟨b, 0, none⟩) l.length cap
def bldMx {α : Type} (u : TypeId) (enc : α → List Value) (l : List α) : SnkS → Mem
  | none => []
  | some (b, _, tl) => [(b, .cells (cat enc l ++ tl).toArray u (0, 0))]
@[simp] theorem bldMx_none {α : Type} (u : TypeId) (enc : α → List Value) (l : List α) : bldMx u enc l none = [] := rfl
def BldOk {α : Type} (sz : Nat) (enc : α → List Value) (l : List α) : SnkS → Prop
  | none => l = []
  | some (_, cap, tl) => l.length ≤ cap ∧ cap ≤ maxLen ∧ (cat enc l ++ tl).length = cap * sz

section bld
variable {α : Type} {sz : Nat} {enc : α → List Value} {u : TypeId} {l : List α} {st : SnkS}
theorem BldOk.rdx (hk : ∀ x, (enc x).length = sz) (h : BldOk sz enc l st) : Rdx sz enc (bldMx u enc l st) (bldVx l st) l := by
  rcases st with _ | ⟨b, cap, tl⟩
  · obtain rfl : l = [] := h
    exact Rdx.nil
  · exact Rdx.blk (i := 0) hk rfl rfl h.1
theorem bldx_all (Q : Nat → Prop) (h : ∀ b cap tl, st = some (b, cap, tl) → Q b) : ∀ e ∈ bldMx u enc l st, Q e.1 := by
  rcases st with _ | ⟨b, cap, tl⟩
  · intro e he; simp [bldMx] at he
  · intro e he
    simp only [bldMx, List.mem_cons, List.not_mem_nil, or_false] at he
    subst he; exact h b cap tl rfl
theorem BldOk.nil : BldOk sz enc ([] : List α) none := rfl
theorem BldOk.some_of (h : BldOk sz enc l st) (hne : l ≠ []) : ∃ b cap tl, st = some (b, cap, tl) := by
  rcases st with _ | ⟨b, cap, tl⟩
  · exact absurd h hne
  · exact ⟨b, cap, tl, rfl⟩
end bld
section te
variable {P : Program} {rd : Option Nat} {ops : Array Oper} {p : Pst} {q : List Nat} {C : Ctx} {L M : Mem} {k : Nat} {tr : Tr} {E : Env}
variable {d : Nat} {ty : TypeId} {ps : String} {af : Array Edge} {g : Option (Nat × Bool)}
theorem TE_sp (M' : Mem) (hc : ∀ a, cnt a (M' ++ L) ≤ cnt a (M ++ L)) (h : TE P rd ops p q C L tr E M') : TE P rd ops p q C L tr E M := fun a w hr hs => h a w hr ⟨hs.fr, hs.hp.sp hc⟩

/-- append onto such a slice that is built up; it lies at the list's begin. -/
theorem TE_appendX {α : Type} {sz by' : Nat} {enc : α → List Value} {s x : Operand} {sT el : TypeId} {z xv : Value} {l ys : List α} {st : SnkS} {H0 : Mem} (B : Mem) (hk : ∀ x, (enc x).length = sz) (h1 : ∀ x, ∀ v ∈ enc x, v.oneCell' = true) (hsz : Nat.blt 0 sz = true)
    (hM : M = bldMx el enc l st ++ B) (ho : ops[k]? = some ⟨some d, .call ⟨.builtin .append, #[s, x], #[sT, sT]⟩, ty, ps, af, g⟩) (hl : ld ops q k = true) (hg : GOK ops E g) (hd : Nat.blt d C.N = true)
    (hT : P.underlying sT = some (.slice el)) (hI : ElI P el sz by' z) (hzs : Nat.beq z.cells.size sz = true)
    (hs : evalE E s = some (bldVx l st)) (hx : evalE E x = some xv) (hok : BldOk sz enc l st) (hb : Rdx sz enc H0 xv ys) (hb0 : ∀ w, Hp (M ++ L) w → Hp H0 w) (hlen : l.length + ys.length ≤ 137438953472) (hby : Nat.ble by' 1024 = true) (hw : ∀ e ∈ bldMx el enc l st, C.w0.heap.size ≤ e.1 ∨ e.1 ∈ C.X)
    (h : ∀ st', BldOk sz enc (l ++ ys) st' → (∀ e ∈ bldMx el enc (l ++ ys) st', C.w0.heap.size ≤ e.1 ∨ e.1 ∈ C.X) → (st.isSome → st'.isSome) → TE P rd ops p q C L tr ((d, bldVx (l ++ ys) st') :: E) (bldMx el enc (l ++ ys) st' ++ B)) : TE P rd ops p q C L (.op k tr) E M := by
  subst hM
  have hs0 : 0 < sz := by simpa using hsz
  have hbytes : (l.length + ys.length) * by' ≤ 140737488355328 := Nat.le_trans (Nat.mul_le_mul hlen (Nat.le_of_ble_eq_true hby)) (by decide)
  rcases st with _ | ⟨b, cap, tl⟩
  · obtain rfl : l = [] := hok
    by_cases hy : ys = []
    · subst hy
      obtain ⟨a, c, rfl⟩ := hb.shape
      exact TE_l ho hl hg rfl (RD.append0 hT hI hs hx (Nat.zero_le _)) hd (h none rfl (fun e he => by simp [bldMx] at he) (fun h => h))
    · refine TE_appendN (ys := cat enc ys) ho hl hg hd hT hI hzs hsz hs hx (hb.src hk hs0 hy hb0) (cat_len hk ys) (cat_one h1 ys) (List.length_pos_iff.2 hy) (maxLen_ge (by omega)) (by simpa using hbytes) ?_
      intro b' cap' tl' h2 h3 h4 h5
      exact h (some (b', cap', tl')) ⟨h2, h3, h4⟩ (fun e he => by
        simp only [bldMx, List.mem_cons, List.not_mem_nil, or_false] at he
        subst he; exact .inl h5) (fun h => by cases h)
  · have hi : (bldMx el enc l (some (b, cap, tl)) ++ B)[0]? = some (b, .cells (cat enc l ++ tl).toArray el (0, 0)) := rfl
    have hwb := hw (b, .cells (cat enc l ++ tl).toArray el (0, 0)) List.mem_cons_self
    by_cases hy : ys = []
    · subst hy
      obtain ⟨a, c, rfl⟩ := hb.shape
      refine TE_l ho hl hg rfl (RD.append0 hT hI hs hx hok.1) hd ?_
      have h9 := h (some (b, cap, tl)) (by rw [List.append_nil]; exact hok) (by rw [List.append_nil]; exact hw) (fun h => h)
      rw [List.append_nil] at h9
      exact h9
    · refine TE_appendS (i := 0) (n := l.length) (xs := cat enc l) (tl := tl) (ys := cat enc ys) ho hl hg hd hT hI hzs hsz hs hx hi (cat_len hk l) hok.2.2 hok.1 hok.2.1 (hb.src hk hs0 hy hb0) (cat_len hk ys) (cat_one h1 ys) (List.length_pos_iff.2 hy) (maxLen_ge (by omega)) hbytes hwb ?_
      intro b' cap' tl' h2 h3 h4 h5
      rw [← cat_append] at h4
      have h9 := h (some (b', cap', tl')) ⟨by simpa using h2, h3, h4⟩ (fun e he => by
        simp only [bldMx, List.mem_cons, List.not_mem_nil, or_false] at he
        subst he
        rcases h5 with rfl | h5
        · exact hwb
        · exact .inl h5) (fun _ => rfl)
      have e : bldVx (l ++ ys) (some (b', cap', tl')) = .slice (some ⟨b', 0, none⟩) (l.length + ys.length) cap' := by simp [bldVx]
      rw [e] at h9
      rw [← cat_append]
      exact h9

/-- A store that fills a block. -/
theorem TE_putW {T : TypeId} {x y : Operand} {i b n : Nat} {cs : Array Value} {t : TypeId} {v : Value} (ho : ops[k]? = some ⟨none, .store T x y, ty, ps, af, g⟩) (hs : ∀ w, (sizeOf T).run P w = .ok n w) (hg : GOK ops E g)
    (hx : evalE E x = some (.pointer (some ⟨b, 0, none⟩))) (hy : evalE E y = some v) (hn : Nat.beq v.cells.size n = true) (h1 : (v.cells.toList.all fun u => u.oneCell') = true) (hi : M[i]? = some (b, .cells cs t (0, 0))) (hc : Nat.beq cs.size n = true) (hw : C.w0.heap.size ≤ b ∨ b ∈ C.X)
    (h : TE P rd ops p q C L tr E (M.set i (b, .cells v.cells t (0, 0)))) : TE P rd ops p q C L (.op k tr) E M := by
  have hn' := Nat.eq_of_beq_eq_true hn
  have hc' := Nat.eq_of_beq_eq_true hc
  refine TE_put ho hs hg hx hy hn h1 hi (Nat.ble_eq_true_of_le (by omega)) hw ?_
  rw [putL_whole (by rw [Array.length_toList]; omega), Array.toArray_toList]
  exact h

/-- A call that turns the blocks of R; what is told of them and of new ones stands at the list's end. -/
theorem TE_callR {f : Operand} {xs : Array Operand} {ats : Array TypeId} {fid : FuncId} {fs cap : Array Value} {vs : List Value} {post : Value → Mem → Prop} (A R : Mem) (hM : ∀ a, cnt a (A ++ R) ≤ cnt a M) (ho : ops[k]? = some ⟨some d, .call ⟨.value f, xs, ats⟩, ty, ps, af, g⟩) (hl : ld ops q k = true) (hg : GOK ops E g)
    (hen : ∀ args w, (callFunc fid args).run P w = .ok (.enter fid args) w) (hf : evalE E f = some (.func (.func fid) fs cap)) (ha : evalL E xs.toList = some vs) (hd : Nat.blt d C.N = true)
    (hX : ∀ e ∈ R, C.w0.heap.size ≤ e.1 ∨ e.1 ∈ C.X)
    (hc : ∀ w, St C.w0 C.X (A ++ R ++ L) w → Calls P fid (fs.toList ++ vs ++ cap.toList).toArray w (Ret w (keys R) post))
    (h : ∀ v H1, post v H1 → (∀ e ∈ H1, C.w0.heap.size ≤ e.1 ∨ e.1 ∈ C.X) → TE P rd ops p q C L tr ((d, v) :: E) (A ++ H1)) : TE P rd ops p q C L (.op k tr) E M :=
  TE_sp (A ++ R) (fun a => by rw [cnt_append a (A ++ R), cnt_append a M]; have := hM a; omega) (TE_callT A R rfl ho hl hg hen hf ha hd hX hc h)
end te
end Go.Mv

namespace Go.Mv
open Go Go.Sort Go.Proofs
theorem Fr.grow {w w' : World} (h : Fr w [] w') : ∃ q os, w' = Sort.grow (w.drewN q) os := by
  refine ⟨w'.drawn - w.drawn, w'.heap.extract w.heap.size w'.heap.size, ?_⟩
  have h1 : w'.heap = w.heap ++ w'.heap.extract w.heap.size w'.heap.size := by
    apply Array.ext_getElem?
    intro i
    by_cases hi : i < w.heap.size
    · rw [Array.getElem?_append_left hi]; exact h.block i hi (by simp)
    · rw [Array.getElem?_append_right (by omega), Array.getElem?_extract]
      by_cases hi' : i < w'.heap.size
      · rw [if_pos (by omega)]; congr 1; omega
      · rw [if_neg (by omega), Array.getElem?_eq_none (by omega)]
  have h2 := h.drawn
  have h3 := h.os
  have h4 := h.tape
  have h5 := h.output
  cases w with | mk hp tp dr os out =>
  cases w' with | mk hp' tp' dr' os' out' =>
  simp only [Sort.grow, World.drewN] at h1 h2 h3 h4 h5 ⊢
  subst h3; subst h4; subst h5
  simp only [World.mk.injEq, true_and, and_true]
  exact ⟨h1, by omega⟩

section sort
variable {α : Type} [Inhabited α] {enc : α → List Value} {k : Nat}
theorem flat_cat (hk : ∀ x, (enc x).length = k) (d : Array α) (t : Nat) (ht : t < d.size * k) : (cat enc d.toList)[t]? = some (flatK enc k d)[t]! := by
  have hs : 0 < k := by
    rcases Nat.eq_zero_or_pos k with h | h
    · subst h; simp at ht
    · exact h
  have hd : t / k < d.size := by rwa [Nat.div_lt_iff_lt_mul hs]
  have hm := Nat.mod_lt t hs
  have e : t = t / k * k + t % k := by rw [Nat.mul_comm]; exact (Nat.div_add_mod t k).symm
  rw [get_flatK enc k d t ht]
  conv => lhs; rw [e]
  rw [cat_get hk d.toList (t / k) (t % k) d[t / k]! (by rw [getElem!_pos d _ hd]; simp [hd]) hm]
  have : t % k < (enc d[t / k]!).length := by rw [hk]; exact hm
  rw [List.getElem?_eq_getElem this, getElem!_pos (enc d[t / k]!) (t % k) this]
theorem sortK_put (hk : ∀ x, (enc x).length = k) (xs : List α) (d : Array α) (tl : List Value) (h : d.size = xs.length) : putCells id 0 (flatK enc k d) (cat enc xs ++ tl).toArray = (cat enc d.toList ++ tl).toArray := by
  have hl : (cat enc xs).length = d.size * k := by rw [cat_len hk, h]
  have hl2 : (cat enc d.toList).length = d.size * k := by rw [cat_len hk]; simp
  apply Array.ext_getElem?
  intro t
  simp only [putCells, Array.getElem?_mapIdx, List.getElem?_toArray, size_flatK, Nat.zero_le, true_and, Nat.zero_add, Nat.sub_zero, id]
  by_cases ht : t < d.size * k
  · have e1 : t < (cat enc xs ++ tl).length := by rw [List.length_append]; omega
    rw [List.getElem?_eq_getElem e1, Option.map_some, if_pos ht, List.getElem?_append_left (by omega), flat_cat hk d t ht]
  · rw [List.getElem?_append_right (by omega), List.getElem?_append_right (by omega), hl, hl2]
    cases hx : tl[t - d.size * k]? with
    | none => rfl
    | some v => rw [Option.map_some, if_neg ht]
theorem sortK_same (w : World) (blk n : Nat) (d : Array α) (os : Array Obj) {cs : Array Value} {u : TypeId} {fz : Nat × Nat} (hb : w.heap[blk]? = some (.cells cs u fz)) : (sortWorldK enc k w blk 0 n d os).heap[blk]? = some (.cells (putCells id 0 (flatK enc k d) cs) u fz) := by
  have hlt := (Array.getElem?_eq_some_iff.1 hb).1
  simp only [sortWorldK, Sort.grow, putRowK, putRow, mapBlock, Sort.ahead]
  rw [Array.getElem?_append_left (by simpa using hlt), Array.getElem?_modify, if_pos rfl, hb]
  simp [onCells]
theorem sortK_other (w : World) (blk n : Nat) (d : Array α) (os : Array Obj) {j : Nat} (hj : j < w.heap.size) (hne : j ≠ blk) : (sortWorldK enc k w blk 0 n d os).heap[j]? = w.heap[j]? := by
  simp only [sortWorldK, Sort.grow, putRowK, putRow, mapBlock, Sort.ahead]
  rw [Array.getElem?_append_left (by simpa using hj), Array.getElem?_modify, if_neg (fun h => hne h.symm)]
theorem sortK_fr (w : World) (blk n : Nat) (d : Array α) (os : Array Obj) : Fr w [blk] (sortWorldK enc k w blk 0 n d os) :=
  ⟨rfl, rfl, rfl, by simp [sortWorldK, Sort.grow, putRowK, putRow, mapBlock, Sort.ahead], fun j hj hX => sortK_other w blk n d os hj (by simpa using hX), by simp [sortWorldK, Sort.grow, putRowK, putRow, mapBlock, Sort.ahead]⟩

theorem c_sortK {P : Program} {ρ : Shelf.Ren} (L : SlLaysF0.n6 P ρ) (aE : ∀ w, (isAgg (ρ.t 24)).run P w = .ok true w) (zE : ∀ w, (Go.sizeOf (ρ.t 24)).run P w = .ok k w) (hk : ∀ x, (enc x).length = k) (h1 : ∀ x, ∀ v ∈ enc x, v.oneCell' = true) (cf : α → α → Int) (hO : SWO (ltOf cf)) (g : Nat) (cb : Array Value)
    (eg : ∀ args w, (callFunc g args).run P w = .ok (.enter g args) w) (HC : Mem) (hcmp : ∀ x y W, Hp HC W → Calls P g (#[.agg (enc x).toArray, .agg (enc y).toArray] ++ cb) W (Ret W [] fun v _ => v = .int .i64 (cf x y)))
    (blk cap : Nat) (u : TypeId) (tl : List Value) (xs : List α) (w : World) (hw : Hp ((blk, .cells (cat enc xs ++ tl).toArray u (0, 0)) :: HC) w) (hsz : xs.length < 4611686018427387904) :
    Calls P (ρ.f 6) #[.slice (some ⟨blk, 0, none⟩) xs.length cap, .func (.func g) #[] cb] w (Ret w [blk] fun v H1 => v = .tuple #[] ∧ ∃ xs' : List α, xs'.Perm xs ∧ xs'.Pairwise (fun x y => ltOf cf y x = false) ∧ H1 = [(blk, .cells (cat enc xs' ++ tl).toArray u (0, 0))]) := by
  have hb := hw.at_ (blk, .cells (cat enc xs ++ tl).toArray u (0, 0)) List.mem_cons_self
  have hblk : blk < w.heap.size := (Array.getElem?_eq_some_iff.1 hb).1
  have hH : HoldsK enc k w blk 0 xs.toArray := fun t ht => by
    rw [size_flatK] at ht
    have hf := flat_cat hk xs.toArray t ht
    obtain ⟨hlt, _⟩ := List.getElem?_eq_some_iff.1 hf
    refine ⟨?_, frozen_of_row w blk _ _ u hb⟩
    simp only [World.cell?, hb, Nat.zero_add, id]
    have hf' : (cat enc xs)[t]? = some (flatK enc k xs.toArray)[t]! := hf
    have hlt' : t < (cat enc xs).length := hlt
    simp [List.getElem?_append_left hlt', hf']
  have hl : CmpLays P g cb enc k cf blk 0 xs.toArray.size w := fun m os dk hdk x y => by
    refine (hcmp x y _ ⟨fun e he => ?_, (List.pairwise_cons.1 hw.ne).2⟩).mono ?_
    · have hlt := hw.lt (e := e) (List.mem_cons_of_mem _ he)
      rw [sortK_other w blk m dk os hlt (Ne.symm ((List.pairwise_cons.1 hw.ne).1 e he))]
      exact hw.at_ e (List.mem_cons_of_mem _ he)
    · rintro e w' ⟨v, H1, rfl, rfl, hfr, _, _⟩
      obtain ⟨q, os', hq⟩ := hfr.grow
      exact ⟨rfl, q, os', hq⟩
  have hcon := AnyQ.slices_SortFunc L k aE zE enc hk h1 cf hO g cb blk 0 cap xs.toArray w eg hl hH hblk (by simpa using hsz)
  rw [List.size_toArray] at hcon
  refine hcon.mono ?_
  rintro e w' ⟨rfl, d', n, os, hp, hs, rfl⟩
  obtain ⟨hsz', _, hperm⟩ := hp
  have hsz' : d'.size = xs.length := hsz'
  refine ⟨_, [(blk, .cells (cat enc d'.toList ++ tl).toArray u (0, 0))], rfl, ⟨rfl, d'.toList, ?_, ?_, rfl⟩, sortK_fr w blk n d' os, ⟨fun e he => ?_, by simp⟩, fun e he => ?_⟩
  · have h2 : d'.extract 0 xs.length = d' := by rw [← hsz']; simp
    have h3 : xs.toArray.extract 0 xs.length = xs.toArray := by simp
    rw [h2, h3] at hperm
    exact hperm
  · rw [List.pairwise_iff_getElem]
    intro i j hi hj hij
    have := hs i j (Nat.zero_le _) hij (by simpa [hsz'] using hj)
    simp only [Array.length_toList] at hi hj
    rw [getElem!_pos d' i hi, getElem!_pos d' j hj] at this
    simpa using this
  · simp only [List.mem_cons, List.not_mem_nil, or_false] at he
    subst he
    rw [← sortK_put hk xs d' tl hsz']
    exact sortK_same w blk n d' os hb
  · simp only [List.mem_cons, List.not_mem_nil, or_false] at he
    subst he; exact .inl (by simp)
end sort
theorem cat_val {β : Type} {ok : β → Prop} (enc : β → List Value) : ∀ l : List {x // ok x}, cat (fun x : {x // ok x} => enc x.1) l = cat enc (l.map (·.1))
  | [] => rfl
  | x :: l => by simp [cat_val enc l]
theorem val_attach {β : Type} {ok : β → Prop} : ∀ l : List β, (∀ x ∈ l, ok x) → ∃ l' : List {x // ok x}, l'.map (·.1) = l
  | [], _ => ⟨[], rfl⟩
  | x :: l, h => by
    obtain ⟨l', hl⟩ := val_attach l (fun y hy => h y (List.mem_cons_of_mem _ hy))
    exact ⟨⟨x, h x List.mem_cons_self⟩ :: l', by simp [hl]⟩

/-- slices.SortFunc, where the elements are all such as ok says. -/
theorem c_sortS {β : Type} {enc : β → List Value} {k : Nat} (ok : β → Prop) (x0 : β) (hx0 : ok x0) {P : Program} {ρ : Shelf.Ren} (L : SlLaysF0.n6 P ρ) (aE : ∀ w, (isAgg (ρ.t 24)).run P w = .ok true w) (zE : ∀ w, (Go.sizeOf (ρ.t 24)).run P w = .ok k w) (hk : ∀ x, (enc x).length = k) (h1 : ∀ x, ∀ v ∈ enc x, v.oneCell' = true) (cf : β → β → Int)
    (hirr : ∀ x, ¬ cf x x < 0) (htr : ∀ x y z, cf x y < 0 → cf y z < 0 → cf x z < 0) (hnt : ∀ x y z, ¬ cf x y < 0 → ¬ cf y z < 0 → ¬ cf x z < 0) (g : Nat) (cb : Array Value)
    (eg : ∀ args w, (callFunc g args).run P w = .ok (.enter g args) w) (HC : Mem) (hcmp : ∀ x y W, ok x → ok y → Hp HC W → Calls P g (#[.agg (enc x).toArray, .agg (enc y).toArray] ++ cb) W (Ret W [] fun v _ => v = .int .i64 (cf x y)))
    (blk cap : Nat) (u : TypeId) (tl : List Value) (xs : List β) (hxs : ∀ x ∈ xs, ok x) (w : World) (hw : Hp ((blk, .cells (cat enc xs ++ tl).toArray u (0, 0)) :: HC) w) (hsz : xs.length < 4611686018427387904) :
    Calls P (ρ.f 6) #[.slice (some ⟨blk, 0, none⟩) xs.length cap, .func (.func g) #[] cb] w (Ret w [blk] fun v H1 => v = .tuple #[] ∧ ∃ xs' : List β, xs'.Perm xs ∧ xs'.Pairwise (fun x y => ¬ cf y x < 0) ∧ H1 = [(blk, .cells (cat enc xs' ++ tl).toArray u (0, 0))]) := by
  obtain ⟨l, rfl⟩ := val_attach xs hxs
  have : Inhabited {x // ok x} := ⟨⟨x0, hx0⟩⟩
  have hlt : ∀ x y : {x // ok x}, ltOf (fun x y : {x // ok x} => cf x.1 y.1) x y = decide (cf x.1 y.1 < 0) := fun _ _ => rfl
  have hO : SWO (ltOf fun x y : {x // ok x} => cf x.1 y.1) := ⟨fun x => by rw [hlt]; simpa using hirr x.1, fun x y z h2 h3 => by rw [hlt] at *; simp only [decide_eq_true_eq] at *; exact htr _ _ _ h2 h3, fun x y z h2 h3 => by rw [hlt] at *; simp only [decide_eq_false_iff_not] at *; exact hnt _ _ _ h2 h3⟩
  have h := c_sortK (enc := fun x : {x // ok x} => enc x.1) L aE zE (fun x => hk x.1) (fun x => h1 x.1) (fun x y => cf x.1 y.1) hO g cb eg HC (fun x y W hW => hcmp x.1 y.1 W x.2 y.2 hW) blk cap u tl l w (by rw [cat_val]; exact hw) (by simpa using hsz)
  rw [List.length_map]
  refine h.mono ?_
  rintro e w' ⟨v, H1, rfl, ⟨rfl, xs', hp, hs, rfl⟩, hfr, hH, hn⟩
  refine ⟨_, _, rfl, ⟨rfl, xs'.map (·.1), hp.map _, ?_, rfl⟩, hfr, ?_, ?_⟩
  · rw [List.pairwise_map]
    refine hs.imp ?_
    intro x y h2
    rw [hlt] at h2; simpa using h2
  · rw [← cat_val]; exact hH
  · rw [← cat_val]; exact hn

/-- .. of a slice that was built up. -/
theorem c_sortB {β : Type} {enc : β → List Value} {k : Nat} (ok : β → Prop) (x0 : β) (hx0 : ok x0) {P : Program} {ρ : Shelf.Ren} (L : SlLaysF0.n6 P ρ) (aE : ∀ w, (isAgg (ρ.t 24)).run P w = .ok true w) (zE : ∀ w, (Go.sizeOf (ρ.t 24)).run P w = .ok k w) (hk : ∀ x, (enc x).length = k) (h1 : ∀ x, ∀ v ∈ enc x, v.oneCell' = true) (cf : β → β → Int)
    (hirr : ∀ x, ¬ cf x x < 0) (htr : ∀ x y z, cf x y < 0 → cf y z < 0 → cf x z < 0) (hnt : ∀ x y z, ¬ cf x y < 0 → ¬ cf y z < 0 → ¬ cf x z < 0) (g : Nat) (cb : Array Value)
    (eg : ∀ args w, (callFunc g args).run P w = .ok (.enter g args) w) (HC : Mem) (hcmp : ∀ x y W, ok x → ok y → Hp HC W → Calls P g (#[.agg (enc x).toArray, .agg (enc y).toArray] ++ cb) W (Ret W [] fun v _ => v = .int .i64 (cf x y)))
    (u : TypeId) (xs : List β) (st : SnkS) (hok : BldOk k enc xs st) (hxs : ∀ x ∈ xs, ok x) (w : World) (hw : Hp (bldMx u enc xs st ++ HC) w) (hsz : xs.length ≤ 1000000) :
    Calls P (ρ.f 6) #[bldVx xs st, .func (.func g) #[] cb] w (Ret w (keys (bldMx u enc xs st)) fun v H1 => v = .tuple #[] ∧ ∃ xs' : List β, xs'.Perm xs ∧ xs'.Pairwise (fun x y => ¬ cf y x < 0) ∧ H1 = bldMx u enc xs' st ∧ bldVx xs' st = bldVx xs st ∧ BldOk k enc xs' st) := by
  rcases st with _ | ⟨b, cap, tl⟩
  · obtain rfl : xs = [] := hok
    refine (AnyF.slices_SortFunc_none L none 0 (.func (.func g) #[] cb) w).mono ?_
    rintro e w' ⟨rfl, rfl⟩
    exact ⟨_, [], rfl, ⟨rfl, [], .nil, .nil, rfl, rfl, rfl⟩, Fr.refl _ _, Hp.nil _, by simp⟩
  · refine (c_sortS ok x0 hx0 L aE zE hk h1 cf hirr htr hnt g cb eg HC hcmp b cap u tl xs hxs w hw (by omega)).mono ?_
    rintro e w' ⟨v, H1, rfl, ⟨rfl, xs', hp, hs, rfl⟩, hfr, hH, hn⟩
    refine ⟨_, _, rfl, ⟨rfl, xs', hp, hs, rfl, by simp [bldVx, hp.length_eq], hok.1 |> fun h => ⟨by rw [hp.length_eq]; exact h, hok.2.1, ?_⟩⟩, hfr, hH, hn⟩
    have := hok.2.2
    rw [List.length_append, cat_len hk] at this ⊢
    rw [hp.length_eq]; exact this
end Go.Mv

namespace Go.Mv
open Go
/-- An entry: a key, a value, when it was born. -/
structure ME (κ β : Type) where
  k : κ
  v : β
  n : Nat
section maps
variable {κ β : Type} [DecidableEq κ] {ek : κ → Value} {ev : β → Value}
def mpos (x : κ) : List (ME κ β) → Nat → Option (Nat × ME κ β)
  | [], _ => none
  | e :: r, i => if x = e.k then some (i, e) else mpos x r (i + 1)
def mget (x : κ) (l : List (ME κ β)) : Option β := (mpos x l 0).map fun p => p.2.v
theorem mpos_lt {x : κ} : ∀ {l : List (ME κ β)} {i : Nat} {j : Nat} {e : ME κ β}, mpos x l i = some (j, e) → i ≤ j ∧ j < i + l.length ∧ l[j - i]? = some e ∧ e.k = x
  | [], i, j, e, h => by simp [mpos] at h
  | f :: r, i, j, e, h => by
    simp only [mpos] at h
    split at h
    · rename_i hx
      simp only [Option.some.injEq, Prod.mk.injEq] at h
      obtain ⟨rfl, rfl⟩ := h
      simp [hx]
    · obtain ⟨h1, h2, h3, h4⟩ := mpos_lt h
      refine ⟨by omega, by simp only [List.length_cons]; omega, ?_, h4⟩
      rw [show j - i = (j - (i + 1)) + 1 from by omega, List.getElem?_cons_succ]; exact h3
theorem mpos_none {x : κ} : ∀ {l : List (ME κ β)} {i : Nat}, mpos x l i = none ↔ ∀ e ∈ l, e.k ≠ x
  | [], i => by simp [mpos]
  | f :: r, i => by
    simp only [mpos]
    split
    · rename_i hx
      simp only [reduceCtorEq, List.mem_cons, ne_eq, forall_eq_or_imp, false_iff, not_and]
      exact fun h => absurd hx.symm h
    · rename_i hx
      rw [mpos_none]
      simp only [List.mem_cons, ne_eq, forall_eq_or_imp]
      exact ⟨fun h => ⟨fun e => hx e.symm, h⟩, fun h => h.2⟩
/-- The keys are unlike, so are the births, and these are past. -/
structure MOk (l : List (ME κ β)) (c : Nat) : Prop where
  ks : l.Pairwise fun a b => a.k ≠ b.k
  ns : l.Pairwise fun a b => a.n ≠ b.n
  lt : ∀ e ∈ l, e.n < c
omit [DecidableEq κ] in
theorem MOk.nil (c : Nat) : MOk ([] : List (ME κ β)) c := ⟨.nil, .nil, by simp⟩

section run
variable {P : Program} {T : TypeId}
end run
section rd
variable {P : Program} {ty : TypeId} {E : Env} {L : Mem} {x y : Operand} {T key elem : TypeId} {z : Value}
end rd
/-- Another value at a place. -/
def mat (i : Nat) (v : β) (l : List (ME κ β)) : List (ME κ β) := l.modify i fun e => { e with v := v }
/-- m[x] = v. -/
def mput (x : κ) (v : β) (l : List (ME κ β)) (c : Nat) : List (ME κ β) × Nat :=
  match mpos x l 0 with
  | some (i, _) => (mat i v l, c)
  | none => (l ++ [⟨x, v, c⟩], c + 1)

omit [DecidableEq κ] in
theorem mat_get (i : Nat) (v : β) (l : List (ME κ β)) (j : Nat) : (mat i v l)[j]? = if i = j then (l[j]?).map (fun e => { e with v := v }) else l[j]? := by
  rw [mat, List.getElem?_modify]
  split
  · rename_i h; subst h; rfl
  · simp
omit [DecidableEq κ] in
theorem mat_map {γ : Type} (f : ME κ β → γ) (hf : ∀ e (v : β), f { e with v := v } = f e) (i : Nat) (v : β) (l : List (ME κ β)) : (mat i v l).map f = l.map f := by
  apply List.ext_getElem?
  intro j
  simp only [List.getElem?_map, mat_get]
  split
  · cases l[j]? with
    | none => rfl
    | some e => simp [hf]
  · rfl
omit [DecidableEq κ] in
theorem pair_map {γ : Type} {f : ME κ β → γ} {R : γ → γ → Prop} {l l' : List (ME κ β)} (h : l'.map f = l.map f) (hp : l.Pairwise fun a b => R (f a) (f b)) : l'.Pairwise fun a b => R (f a) (f b) := by
  have h1 := List.pairwise_map.2 hp
  rw [← h] at h1
  exact List.pairwise_map.1 h1
omit [DecidableEq κ] in
theorem MOk.mat {l : List (ME κ β)} {c : Nat} (h : MOk l c) (i : Nat) (v : β) : MOk (mat i v l) c := by
  refine ⟨pair_map (f := ME.k) (R := (· ≠ ·)) (mat_map ME.k (fun _ _ => rfl) i v l) h.ks, pair_map (f := ME.n) (R := (· ≠ ·)) (mat_map ME.n (fun _ _ => rfl) i v l) h.ns, fun e he => ?_⟩
  have h1 : e.n ∈ (Mv.mat i v l).map ME.n := List.mem_map.2 ⟨e, he, rfl⟩
  rw [mat_map ME.n (fun _ _ => rfl)] at h1
  obtain ⟨f, hf, hfe⟩ := List.mem_map.1 h1
  rw [← hfe]; exact h.lt f hf
theorem MOk.push {l : List (ME κ β)} {c : Nat} (h : MOk l c) {x : κ} (hx : mpos x l 0 = none) (v : β) : MOk (l ++ [⟨x, v, c⟩]) (c + 1) := by
  have hn := mpos_none.1 hx
  refine ⟨List.pairwise_append.2 ⟨h.ks, by simp, fun a ha b hb => ?_⟩, List.pairwise_append.2 ⟨h.ns, by simp, fun a ha b hb => ?_⟩, fun e he => ?_⟩
  · simp only [List.mem_cons, List.not_mem_nil, or_false] at hb; subst hb; exact hn a ha
  · simp only [List.mem_cons, List.not_mem_nil, or_false] at hb; subst hb; have := h.lt a ha; simp only [ne_eq]; omega
  · rcases List.mem_append.1 he with he | he
    · have := h.lt e he; omega
    · simp only [List.mem_cons, List.not_mem_nil, or_false] at he; subst he; simp
theorem MOk.put {l : List (ME κ β)} {c : Nat} (h : MOk l c) (x : κ) (v : β) : MOk (mput x v l c).1 (mput x v l c).2 := by
  unfold mput
  split
  · exact h.mat _ v
  · rename_i hx; exact h.push hx v
theorem mpos_push {x y : κ} {v : β} {c : Nat} : ∀ {l : List (ME κ β)} {i : Nat}, mpos y (l ++ [⟨x, v, c⟩]) i = match mpos y l i with | some p => some p | none => if y = x then some (i + l.length, ⟨x, v, c⟩) else none
  | [], i => by simp [mpos]
  | e :: r, i => by
    simp only [List.cons_append, mpos, List.length_cons]
    split
    · rfl
    · rw [mpos_push]
      split
      · rfl
      · simp only [show i + 1 + r.length = i + (r.length + 1) from by omega]
theorem mpos_mat {y : κ} {v : β} : ∀ {l : List (ME κ β)} {i j : Nat}, mpos y (mat i v l) j = (mpos y l j).map fun p => (p.1, if p.1 = j + i then { p.2 with v := v } else p.2)
  | [], i, j => by cases i <;> simp [mat, mpos]
  | e :: r, 0, j => by
    simp only [mat, List.modify_zero_cons, mpos]
    split
    · simp
    · cases hm : mpos y r (j + 1) with
      | none => rfl
      | some p => have := (mpos_lt (j := p.1) (e := p.2) hm).1; simp [show ¬ p.1 = j from by omega]
  | e :: r, i + 1, j => by
    have ih := mpos_mat (y := y) (v := v) (l := r) (i := i) (j := j + 1)
    simp only [mat, List.modify_succ_cons, mpos] at ih ⊢
    split
    · simp
    · rw [ih]; simp only [show j + 1 + i = j + (i + 1) from by omega]
theorem mget_put {l : List (ME κ β)} {c : Nat} (x y : κ) (v : β) : mget y (mput x v l c).1 = if y = x then some v else mget y l := by
  unfold mput
  cases hx : mpos x l 0 with
  | none =>
    simp only [mget, mpos_push]
    by_cases hy : y = x
    · subst hy; simp [hx]
    · simp only [if_neg hy]
      cases mpos y l 0 <;> simp
  | some p =>
    obtain ⟨i, e⟩ := p
    obtain ⟨_, _, h3, h4⟩ := mpos_lt hx
    simp only [mget, mpos_mat, Option.map_map]
    by_cases hy : y = x
    · subst hy; simp [hx]
    · rw [if_neg hy]
      cases hm : mpos y l 0 with
      | none => rfl
      | some p =>
        obtain ⟨j, f⟩ := p
        obtain ⟨_, _, g3, g4⟩ := mpos_lt hm
        have hij : ¬ j = 0 + i := by
          intro h
          subst h
          simp only [Nat.zero_add, Nat.sub_zero] at h3 g3
          rw [h3] at g3
          simp only [Option.some.injEq] at g3
          exact hy (by rw [← g4, ← g3, h4])
        simp [show ¬ j = i from by omega]
section te
variable {P : Program} {rd : Option Nat} {ops : Array Oper} {p : Pst} {q : List Nat} {C : Ctx} {L M : Mem} {k : Nat} {tr : Tr} {E : Env}
variable {d : Nat} {ty : TypeId} {ps : String} {af : Array Edge} {g : Option (Nat × Bool)}
end te
end maps
end Go.Mv

namespace Go.Mv
open Go Go.Proofs
def Tr.same : Tr → Tr → Bool
  | .nil, .nil => true
  | .op i s, .op j t => Nat.beq i j && s.same t
  | .fork s t, .fork s' t' => s.same s' && t.same t'
  | _, _ => false
theorem Tr.same_eq : ∀ {s t : Tr}, s.same t = true → s = t
  | .nil, .nil, _ => rfl
  | .op i s, .op j t, h => by
    simp only [Tr.same, Bool.and_eq_true] at h
    rw [Nat.eq_of_beq_eq_true h.1, Tr.same_eq h.2]
  | .fork s t, .fork s' t', h => by
    simp only [Tr.same, Bool.and_eq_true] at h
    rw [Tr.same_eq h.1, Tr.same_eq h.2]
  | .nil, .op _ _, h => by cases h
  | .nil, .fork _ _, h => by cases h
  | .op _ _, .nil, h => by cases h
  | .op _ _, .fork _ _, h => by cases h
  | .fork _ _, .nil, h => by cases h
  | .fork _ _, .op _ _, h => by cases h
def sameS (x y : Array Bool × Tr) : Bool := (x.1.toList == y.1.toList) && x.2.same y.2
theorem sameS_eq {x y : Array Bool × Tr} (h : sameS x y = true) : x = y := by
  obtain ⟨a, s⟩ := x
  obtain ⟨b, t⟩ := y
  simp only [sameS, Bool.and_eq_true] at h
  have h1 : a.toList = b.toList := eq_of_beq h.1
  rw [Array.toList_inj.1 h1, Tr.same_eq h.2]
def addS (acc : List (Array Bool × Tr)) (x : Array Bool × Tr) : List (Array Bool × Tr) := if acc.any (sameS x) then acc else x :: acc
theorem addS_old {acc : List (Array Bool × Tr)} {x y : Array Bool × Tr} (h : y ∈ acc) : y ∈ addS acc x := by
  unfold addS; split
  · exact h
  · exact List.mem_cons_of_mem _ h
theorem addS_new (acc : List (Array Bool × Tr)) (x : Array Bool × Tr) : x ∈ addS acc x := by
  unfold addS; split
  · rename_i h
    obtain ⟨y, hy, h⟩ := List.any_eq_true.1 h
    rwa [sameS_eq h]
  · exact List.mem_cons_self
theorem foldS_old : ∀ (l acc : List (Array Bool × Tr)) {y : Array Bool × Tr}, y ∈ acc → y ∈ l.foldl addS acc
  | [], _, _, h => h
  | x :: l, acc, _, h => foldS_old l (addS acc x) (addS_old h)
theorem foldS_mem : ∀ (l acc : List (Array Bool × Tr)) {y : Array Bool × Tr}, y ∈ l → y ∈ l.foldl addS acc
  | x :: l, acc, y, h => by
    rcases List.mem_cons.1 h with rfl | h
    · exact foldS_old l _ (addS_new acc y)
    · exact foldS_mem l _ h
/-- One state's next ones; none: an order that the tree has not. -/
def stepS (ops : Array Oper) (loud : Nat → Bool) (x : Array Bool × Tr) : Option (List (Array Bool × Tr)) :=
  match Region.ready .any ops x.1 with
  | [] => if x.2.isNil then some [] else none
  | r => r.mapM fun i => (pull ops loud i x.2).map fun t' => (x.1.setIfInBounds i true, t')
def chkL (ops : Array Oper) (loud : Nat → Bool) : Nat → List (Array Bool × Tr) → Bool
  | 0, S => S.all fun x => (Region.ready .any ops x.1).isEmpty && x.2.isNil
  | fuel + 1, S => match S.mapM (stepS ops loud) with
    | none => false
    | some l => chkL ops loud fuel (l.flatten.foldl addS [])
theorem mapM_mem {α β : Type} {f : α → Option β} : ∀ {l : List α} {m : List β}, l.mapM f = some m → ∀ x ∈ l, ∃ y, f x = some y ∧ y ∈ m
  | [], _, _, x, hx => by simp at hx
  | a :: l, m, h, x, hx => by
    rw [List.mapM_cons] at h
    cases ha : f a with
    | none => rw [ha] at h; simp at h
    | some b =>
      cases hl : l.mapM f with
      | none => rw [ha, hl] at h; simp at h
      | some n =>
        rw [ha, hl] at h
        have h : b :: n = m := by simpa using h
        subst h
        rcases List.mem_cons.1 hx with rfl | hx
        · exact ⟨b, ha, List.mem_cons_self⟩
        · obtain ⟨y, h1, h2⟩ := mapM_mem hl x hx
          exact ⟨y, h1, List.mem_cons_of_mem _ h2⟩
theorem chkT_of_L (ops : Array Oper) (loud : Nat → Bool) : ∀ (fuel : Nat) (S : List (Array Bool × Tr)), chkL ops loud fuel S = true → ∀ x ∈ S, chkT ops loud fuel x.1 x.2 = true
  | 0, S, h, x, hx => by
    simp only [chkL, List.all_eq_true] at h
    exact h x hx
  | fuel + 1, S, h, x, hx => by
    simp only [chkL] at h
    split at h
    · cases h
    · rename_i l hl
      obtain ⟨y, hy, hyl⟩ := mapM_mem hl x hx
      simp only [stepS] at hy
      simp only [chkT]
      split at hy
      · rename_i hr
        rw [hr]
        show x.2.isNil = true
        split at hy
        · assumption
        · cases hy
      · rename_i hr
        split
        · rename_i hr'; exact absurd hr' hr
        · rw [List.all_eq_true]
          intro i hi
          obtain ⟨z, hz, hzy⟩ := mapM_mem hy i hi
          cases hp : pull ops loud i x.2 with
          | none => rw [hp] at hz; simp at hz
          | some t' =>
            rw [hp] at hz
            have hz : (x.1.setIfInBounds i true, t') = z := by simpa using hz
            subst hz
            exact chkT_of_L ops loud fuel _ h (x.1.setIfInBounds i true, t') (foldS_mem _ [] (List.mem_flatten.2 ⟨y, hyl, hzy⟩))
section code
variable {P : Program} {rd : Option Nat} {p : Pst} {C : Ctx} {E : Env} {H : Mem} {ops : Array Oper} {id : Nat}
end code
def idC (t : Nat → Int) : List Value := (idV t).cells.toList
theorem idC_len (t : Nat → Int) : (idC t).length = 32 := rfl
theorem idC_one (t : Nat → Int) : ∀ v ∈ idC t, v.oneCell' = true := List.all_eq_true.1 (show (idC t).all (fun v => v.oneCell') = true from rfl)
theorem idC_agg (t : Nat → Int) : Value.agg (idC t).toArray = idV t := rfl
def cmpF (f g : Nat → Int) : Nat → Nat → Int
  | 0, _ => 0
  | n + 1, i => if f i < g i then -1 else if g i < f i then 1 else cmpF f g n (i + 1)
def idCmp (f g : Nat → Int) : Int := cmpF f g 32 0
theorem cmpF_neg (f g : Nat → Int) : ∀ n i, cmpF f g n i < 0 ↔ ∃ k, i ≤ k ∧ k < i + n ∧ (∀ j, i ≤ j → j < k → f j = g j) ∧ f k < g k
  | 0, i => by simp only [cmpF]; constructor
               · intro h; omega
               · rintro ⟨k, h1, h2, _⟩; omega
  | n + 1, i => by
    simp only [cmpF]
    split
    · rename_i h
      exact ⟨fun _ => ⟨i, Nat.le_refl _, by omega, fun j h1 h2 => by omega, h⟩, fun _ => by decide⟩
    · rename_i h1
      split
      · rename_i h2
        constructor
        · intro h; omega
        · rintro ⟨k, hk1, hk2, hk3, hk4⟩
          exfalso
          rcases Nat.lt_or_eq_of_le hk1 with h | rfl
          · have := hk3 i (Nat.le_refl _) h; omega
          · omega
      · rename_i h2
        rw [cmpF_neg f g n (i + 1)]
        constructor
        · rintro ⟨k, hk1, hk2, hk3, hk4⟩
          refine ⟨k, by omega, by omega, fun j h3 h4 => ?_, hk4⟩
          rcases Nat.lt_or_eq_of_le h3 with h | rfl
          · exact hk3 j h h4
          · omega
        · rintro ⟨k, hk1, hk2, hk3, hk4⟩
          refine ⟨k, ?_, by omega, fun j h3 h4 => hk3 j (by omega) h4, hk4⟩
          rcases Nat.lt_or_eq_of_le hk1 with h | rfl
          · exact h
          · omega
theorem cmpF_swap (f g : Nat → Int) : ∀ n i, cmpF g f n i = - cmpF f g n i
  | 0, i => rfl
  | n + 1, i => by
    simp only [cmpF]
    rw [cmpF_swap f g n (i + 1)]
    split
    · rename_i h1; rw [if_neg (by omega)]
    · split <;> rfl
theorem cmpF_zero (f g : Nat → Int) : ∀ n i, cmpF f g n i = 0 ↔ ∀ k, i ≤ k → k < i + n → f k = g k
  | 0, i => by simp only [cmpF, true_iff]; intro k h1 h2; omega
  | n + 1, i => by
    simp only [cmpF]
    split
    · rename_i h
      constructor
      · intro h'; omega
      · intro h'; have := h' i (Nat.le_refl _) (by omega); omega
    · split
      · rename_i h
        constructor
        · intro h'; omega
        · intro h'; have := h' i (Nat.le_refl _) (by omega); omega
      · rename_i h1 h2
        rw [cmpF_zero f g n (i + 1)]
        constructor
        · intro h k h3 h4
          rcases Nat.lt_or_eq_of_le h3 with h5 | rfl
          · exact h k h5 (by omega)
          · omega
        · intro h k h3 h4; exact h k (by omega) (by omega)
theorem idCmp_neg {f g : Nat → Int} : idCmp f g < 0 ↔ ∃ k, k < 32 ∧ (∀ j, j < k → f j = g j) ∧ f k < g k := by
  rw [idCmp, cmpF_neg]
  constructor
  · rintro ⟨k, h1, h2, h3, h4⟩; exact ⟨k, by omega, fun j => h3 j (Nat.zero_le _), h4⟩
  · rintro ⟨k, h2, h3, h4⟩; exact ⟨k, Nat.zero_le _, by omega, fun j _ => h3 j, h4⟩
theorem idCmp_swap (f g : Nat → Int) : idCmp g f = - idCmp f g := cmpF_swap f g 32 0
theorem idCmp_zero {f g : Nat → Int} : idCmp f g = 0 ↔ ∀ k, k < 32 → f k = g k := by
  rw [idCmp, cmpF_zero]
  exact ⟨fun h k hk => h k (Nat.zero_le _) (by omega), fun h k _ hk => h k (by omega)⟩
theorem idCmp_irr (f : Nat → Int) : ¬ idCmp f f < 0 := by rw [idCmp_zero.2 fun _ _ => rfl]; omega
theorem idCmp_tr (f g h : Nat → Int) (h1 : idCmp f g < 0) (h2 : idCmp g h < 0) : idCmp f h < 0 := by
  rw [idCmp_neg] at *
  obtain ⟨k, hk, h3, h4⟩ := h1
  obtain ⟨m, hm, h5, h6⟩ := h2
  rcases Nat.lt_trichotomy k m with hlt | rfl | hlt
  · exact ⟨k, hk, fun j hj => (h3 j hj).trans (h5 j (by omega)), by rw [← h5 k hlt]; exact h4⟩
  · exact ⟨k, hk, fun j hj => (h3 j hj).trans (h5 j hj), by omega⟩
  · exact ⟨m, hm, fun j hj => (h3 j (by omega)).trans (h5 j hj), by rw [h3 m hlt]; exact h6⟩
theorem idCmp_congr {f g h : Nat → Int} (he : idCmp f g = 0) : idCmp f h < 0 ↔ idCmp g h < 0 := by
  rw [idCmp_zero] at he
  rw [idCmp_neg, idCmp_neg]
  constructor
  · rintro ⟨k, hk, h1, h2⟩; exact ⟨k, hk, fun j hj => by rw [← he j (by omega)]; exact h1 j hj, by rw [← he k hk]; exact h2⟩
  · rintro ⟨k, hk, h1, h2⟩; exact ⟨k, hk, fun j hj => by rw [he j (by omega)]; exact h1 j hj, by rw [he k hk]; exact h2⟩
theorem idCmp_nt (f g h : Nat → Int) (h1 : ¬ idCmp f g < 0) (h2 : ¬ idCmp g h < 0) : ¬ idCmp f h < 0 := fun h3 => by
  by_cases h4 : idCmp f g = 0
  · exact h2 ((idCmp_congr h4).1 h3)
  · exact h2 (idCmp_tr g f h (by rw [idCmp_swap]; omega) h3)
/-- Nothing stands behind the bytes. -/
def IdCan (f : Nat → Int) : Prop := ∀ i, 32 ≤ i → f i = 0
theorem eq_of_can {f g : Nat → Int} (hf : IdCan f) (hg : IdCan g) (h : idCmp f g = 0) : f = g := funext fun i => by
  by_cases hi : i < 32
  · exact idCmp_zero.1 h i hi
  · rw [hf i (by omega), hg i (by omega)]

/-- xs is the set of l. -/
def SetOf (l xs : List (Nat → Int)) : Prop := xs.Pairwise (fun x y => idCmp x y < 0) ∧ ∀ x, x ∈ xs ↔ x ∈ l
theorem srt_nodup {xs : List (Nat → Int)} (h : xs.Pairwise fun x y => idCmp x y < 0) : xs.Nodup := by
  rw [List.nodup_iff_pairwise_ne]
  exact h.imp (fun {a b} (h : idCmp a b < 0) (he : a = b) => idCmp_irr a (by rw [← he] at h; exact h))
theorem SetOf.uniq {l xs ys : List (Nat → Int)} (h1 : SetOf l xs) (h2 : SetOf l ys) : xs = ys :=
  List.Perm.eq_of_pairwise (fun a _ _ _ ha hb => absurd (idCmp_tr _ _ _ ha hb) (idCmp_irr a)) h1.1 h2.1 ((List.perm_ext_iff_of_nodup (srt_nodup h1.1) (srt_nodup h2.1)).2 fun x => (h1.2 x).trans (h2.2 x).symm)
theorem SetOf.nil : SetOf [] [] := ⟨.nil, fun _ => Iff.rfl⟩
theorem SetOf.congr {l m xs : List (Nat → Int)} (h : SetOf l xs) (hm : ∀ x, x ∈ l ↔ x ∈ m) : SetOf m xs := ⟨h.1, fun x => (h.2 x).trans (hm x)⟩
theorem take_succ_of {α : Type} {l : List α} {m : Nat} {x : α} (hx : l[m]? = some x) : l.take (m + 1) = l.take m ++ [x] := by
  obtain ⟨hlt, rfl⟩ := List.getElem?_eq_some_iff.1 hx
  exact List.take_succ_eq_append_getElem hlt
theorem SetOf.same {l D : List (Nat → Int)} {m : Nat} {x : Nat → Int} (h : SetOf (l.take m) D) (hx : l[m]? = some x) (hm : x ∈ D) : SetOf (l.take (m + 1)) D := ⟨h.1, fun y => by
  rw [take_succ_of hx, List.mem_append, ← h.2 y]
  constructor
  · exact .inl
  · rintro (h' | h')
    · exact h'
    · simp only [List.mem_cons, List.not_mem_nil, or_false] at h'; subst h'; exact hm⟩
theorem SetOf.more {l D : List (Nat → Int)} {m : Nat} {x : Nat → Int} (h : SetOf (l.take m) D) (hx : l[m]? = some x) (hl : ∀ y ∈ D, idCmp y x < 0) : SetOf (l.take (m + 1)) (D ++ [x]) := ⟨by
    rw [List.pairwise_append]
    exact ⟨h.1, by simp, fun y hy z hz => by simp only [List.mem_cons, List.not_mem_nil, or_false] at hz; subst hz; exact hl y hy⟩,
  fun y => by rw [take_succ_of hx, List.mem_append, List.mem_append, h.2 y]⟩
/-- The next one of a sorted list, behind those that were met. -/
theorem srt_next {l D : List (Nat → Int)} (hs : l.Pairwise fun x y => ¬ idCmp y x < 0) (hc : ∀ x ∈ l, IdCan x) {m : Nat} {x p : Nat → Int} (h : SetOf (l.take (m + 1)) D) (hp : l[m]? = some p) (hx : l[m + 1]? = some x) :
    (sameN 32 x p = true → SetOf (l.take (m + 1 + 1)) D) ∧ (sameN 32 x p = false → SetOf (l.take (m + 1 + 1)) (D ++ [x])) := by
  obtain ⟨hm1, rfl⟩ := List.getElem?_eq_some_iff.1 hp
  obtain ⟨hm2, rfl⟩ := List.getElem?_eq_some_iff.1 hx
  constructor
  · intro h'
    refine h.same hx ?_
    have : l[m + 1] = l[m] := eq_of_can (hc _ (List.getElem_mem _)) (hc _ (List.getElem_mem _)) (idCmp_zero.2 (sameN_iff.1 h'))
    rw [this, h.2, List.mem_take_iff_getElem]
    exact ⟨m, by omega, rfl⟩
  · intro h'
    refine h.more hx fun y hy => ?_
    rw [h.2, List.mem_take_iff_getElem] at hy
    obtain ⟨j, hj, rfl⟩ := hy
    have hj' : j < m + 1 ∧ j < l.length := by omega
    have h1 : ¬ idCmp l[m + 1] l[m] < 0 := List.pairwise_iff_getElem.1 hs m (m + 1) hm1 hm2 (by omega)
    have h2 : idCmp l[m] l[m + 1] < 0 := by
      have h3 : idCmp l[m + 1] l[m] ≠ 0 := fun h4 => by rw [sameN_iff.2 (idCmp_zero.1 h4)] at h'; cases h'
      rw [idCmp_swap]; omega
    rcases Nat.lt_succ_iff_lt_or_eq.1 hj'.1 with h4 | h4
    · have h5 : ¬ idCmp l[m] l[j] < 0 := List.pairwise_iff_getElem.1 hs j m hj'.2 hm1 h4
      by_cases h6 : idCmp l[j] l[m + 1] < 0
      · exact h6
      · exact absurd h2 (idCmp_nt _ _ _ h5 h6)
    · subst h4; exact h2

section els
variable {α : Type} {enc : α → List Value} {sz : Nat}
theorem getL_putL (vs : List Value) (cs : Array Value) (off : Nat) (h : off + vs.length ≤ cs.size) : putL cs off vs = (cs.toList.take off ++ vs ++ cs.toList.drop (off + vs.length)).toArray := by
  apply Array.ext_getElem?
  intro i
  have e : ∀ l : List Value, l.toArray[i]? = l[i]? := fun l => List.getElem?_toArray
  rw [get_putL vs cs off i h, e, List.append_assoc, ← Array.getElem?_toList]
  have hl : (cs.toList.take off).length = off := by rw [List.length_take, Array.length_toList]; omega
  by_cases h1 : i < off
  · rw [if_neg (by omega), List.getElem?_append_left (by omega), List.getElem?_take_of_lt h1]
  · rw [List.getElem?_append_right (by omega), hl]
    by_cases h2 : i < off + vs.length
    · rw [if_pos (by omega), List.getElem?_append_left (by omega)]
    · rw [if_neg (by omega), List.getElem?_append_right (by omega), List.getElem?_drop]
      congr 1; omega
theorem cat_putL (hk : ∀ x, (enc x).length = sz) {l : List α} {tl : List Value} {i : Nat} (hi : i < l.length) (z : α) : putL (cat enc l ++ tl).toArray (i * sz) (enc z) = (cat enc (l.set i z) ++ tl).toArray := by
  have hlen : (cat enc l).length = l.length * sz := cat_len hk l
  have hb : i * sz + sz ≤ l.length * sz := by
    have : (i + 1) * sz ≤ l.length * sz := Nat.mul_le_mul_right _ hi
    rwa [Nat.add_mul, Nat.one_mul] at this
  rw [getL_putL _ _ _ (by rw [hk, List.size_toArray, List.length_append]; omega), hk]
  congr 1
  rw [List.toList_toArray]
  have h1 : cat enc l = cat enc (l.take i) ++ cat enc (l.drop i) := by rw [← cat_append, List.take_append_drop]
  have h2 : cat enc (l.drop i) = enc l[i] ++ cat enc (l.drop (i + 1)) := by rw [List.drop_eq_getElem_cons hi, cat_cons]
  have h3 : (cat enc (l.take i)).length = i * sz := by rw [cat_len hk, List.length_take, Nat.min_eq_left (by omega)]
  have h4 : (enc l[i]).length = sz := hk _
  have e1 : (cat enc l ++ tl).take (i * sz) = cat enc (l.take i) := by
    rw [List.take_append_of_le_length (by omega), h1, ← h3]; exact List.take_left
  have e2 : (cat enc l ++ tl).drop (i * sz + sz) = cat enc (l.drop (i + 1)) ++ tl := by
    have : cat enc l ++ tl = (cat enc (l.take i) ++ enc l[i]) ++ (cat enc (l.drop (i + 1)) ++ tl) := by rw [h1, h2]; simp only [List.append_assoc]
    rw [this, ← h3, ← h4, ← List.length_append]; exact List.drop_left
  rw [e1, e2, List.set_eq_take_append_cons_drop, if_pos hi, cat_append, cat_cons, List.append_assoc, List.append_assoc, List.append_assoc]
end els
theorem set_take {α : Type} {zs : List α} {i : Nat} (x : α) (hi : i < zs.length) : (zs.set i x).take (i + 1) = zs.take i ++ [x] := by
  rw [take_succ_of (x := x) (by simp [hi])]
  congr 1
  rw [List.take_set_of_le (Nat.le_refl _)]
theorem BldOk.cell {α : Type} {sz : Nat} {enc : α → List Value} {u : TypeId} (hk : ∀ x, (enc x).length = sz) {l : List α} {b cap : Nat} {tl : List Value} (h : BldOk sz enc l (some (b, cap, tl))) {i : Nat} {x : α} (hi : l[i]? = some x) : ∀ w, Hp (bldMx u enc l (some (b, cap, tl))) w → ∀ (j : Nat) (v : Value), (enc x)[j]? = some v → w.cell? ⟨b, 0 + i * sz + j, none⟩ = some v := by
  rcases (h.rdx (u := u) hk) with ⟨h1, _⟩ | ⟨b', off, cap', h1, _, h2⟩
  · simp [bldVx] at h1
  · simp only [bldVx, Value.slice.injEq, Option.some.injEq, Addr.mk.injEq, and_true, true_and] at h1
    obtain ⟨⟨rfl, rfl⟩, rfl⟩ := h1
    exact fun w hw j v hv => h2 w hw i x hi j v hv
theorem BldOk.set {α : Type} {sz : Nat} {enc : α → List Value} (hk : ∀ x, (enc x).length = sz) {l : List α} {b cap : Nat} {tl : List Value} (h : BldOk sz enc l (some (b, cap, tl))) (i : Nat) (x : α) : BldOk sz enc (l.set i x) (some (b, cap, tl)) :=
  ⟨by rw [List.length_set]; exact h.1, h.2.1, by have := h.2.2; rw [List.length_append, cat_len hk] at this ⊢; rw [List.length_set]; exact this⟩
theorem subVx_pre {α : Type} {sz b cap n i : Nat} {l : List α} {tl : List Value} (h : l.length = i) : subVx sz 0 i (.slice (some ⟨b, 0, none⟩) n cap) = bldVx l (some (b, cap, tl)) := by
  simp [subVx, bldVx, h]

section te
variable {P : Program} {rd : Option Nat} {ops : Array Oper} {p : Pst} {q : List Nat} {C : Ctx} {L M : Mem} {k : Nat} {tr : Tr} {E : Env}
variable {d : Nat} {ty : TypeId} {ps : String} {af : Array Edge} {g : Option (Nat × Bool)}
/-- A store of a whole element of a slice that was built up. -/
theorem TE_setE {α : Type} {sz : Nat} {enc : α → List Value} {T : TypeId} {x y : Operand} {b cap off i : Nat} {tl : List Value} {u : TypeId} {l : List α} {z : α} {v : Value} (B : Mem) (hk : ∀ x, (enc x).length = sz) (h1 : ∀ x, ∀ v ∈ enc x, v.oneCell' = true) (hM : M = bldMx u enc l (some (b, cap, tl)) ++ B)
    (ho : ops[k]? = some ⟨none, .store T x y, ty, ps, af, g⟩) (hs : ∀ w, (sizeOf T).run P w = .ok sz w) (hg : GOK ops E g) (hx : evalE E x = some (.pointer (some ⟨b, off, none⟩))) (hy : evalE E y = some v) (hv : v.cells.toList = enc z)
    (hoff : off = i * sz) (hi : i < l.length) (hw : C.w0.heap.size ≤ b ∨ b ∈ C.X) (h : TE P rd ops p q C L tr E (bldMx u enc (l.set i z) (some (b, cap, tl)) ++ B)) : TE P rd ops p q C L (.op k tr) E M := by
  subst hM
  have hb : i * sz + sz ≤ l.length * sz := by
    have : (i + 1) * sz ≤ l.length * sz := Nat.mul_le_mul_right _ hi
    rwa [Nat.add_mul, Nat.one_mul] at this
  refine TE_put (i := 0) (n := sz) ho hs hg hx hy (by rw [← Array.length_toList, hv, hk]; exact Nat.beq_refl _) (by rw [hv]; exact List.all_eq_true.2 (h1 z)) rfl (Nat.ble_eq_true_of_le (by rw [List.size_toArray, List.length_append, cat_len hk, hoff]; omega)) hw ?_
  rw [hv, hoff, cat_putL hk hi]
  exact h
theorem zeroCells_size (z : Array Value) (n : Nat) : (Builtin.zeroCells z n).size = n * z.size := by simp [Builtin.zeroCells]
theorem zeroCells_one {z : Array Value} (hz : ∀ v ∈ z.toList, v.oneCell' = true) (n : Nat) : ∀ v ∈ (Builtin.zeroCells z n).toList, v.oneCell' = true := fun v hv => by
  simp only [Builtin.zeroCells, Array.toList_map, List.mem_map] at hv
  obtain ⟨i, hi, rfl⟩ := hv
  have h0 : i < n * z.size := by simpa using hi
  have hp : 0 < z.size := by
    rcases Nat.eq_zero_or_pos z.size with h | h
    · rw [h] at h0; omega
    · exact h
  rw [getElem!_pos z _ (Nat.mod_lt _ hp)]
  exact hz _ (by simp)
/-- clear of what stands behind the first n. -/
theorem TE_clearX {α : Type} {sz : Nat} {enc : α → List Value} {x : Operand} {sT u : TypeId} {z : Value} {b cap n : Nat} {tl : List Value} {l : List α} (B : Mem) (hk : ∀ x, (enc x).length = sz) (hM : M = bldMx u enc l (some (b, cap, tl)) ++ B)
    (ho : ops[k]? = some ⟨none, .call ⟨.builtin .clear, #[x], #[sT]⟩, ty, ps, af, g⟩) (hl : ld ops q k = true) (hg : GOK ops E g) (hT : P.underlying sT = some (.slice u)) (hz : ∀ w, (zeroValue u).run P w = .ok z w) (hzs : z.cells.size = sz) (hz1 : ∀ v ∈ z.cells.toList, v.oneCell' = true)
    (hx : evalE E x = some (subVx sz n l.length (bldVx l (some (b, cap, tl))))) (hn : n ≤ l.length) (hok : BldOk sz enc l (some (b, cap, tl))) (hw : C.w0.heap.size ≤ b ∨ b ∈ C.X)
    (h : ∀ tl', BldOk sz enc (l.take n) (some (b, cap, tl')) → TE P rd ops p q C L tr E (bldMx u enc (l.take n) (some (b, cap, tl')) ++ B)) : TE P rd ops p q C L (.op k tr) E M := by
  subst hM
  refine TE_loud ho hl hg rfl fun a w hr hs' => ?_
  rcases Nat.lt_or_eq_of_le hn with hlt | rfl
  · have hc : cap ≠ n := by have := hok.1; omega
    have hlen : (cat enc l).length = l.length * sz := cat_len hk l
    have hle : n * sz + (l.length - n) * sz = l.length * sz := by rw [← Nat.add_mul]; congr 1; omega
    have hzl : (Builtin.zeroCells z.cells (l.length - n)).toList.length = (l.length - n) * sz := by simp [zeroCells_size, hzs]
    have hb := hs'.hp.get (i := 0) (b := b) (o := .cells (cat enc l ++ tl).toArray u (0, 0)) rfl
    obtain ⟨w', hrun, hb', hkk, e1, e2, e3, e4, e5⟩ := run_storeCells_at (P := P) (Builtin.zeroCells z.cells (l.length - n)).toList (cat enc l ++ tl).toArray (n * sz) 0 w hb (by rw [hzl, List.size_toArray, List.length_append]; omega) (zeroCells_one hz1 _)
    have hrun' : (execOp a.eval ⟨none, .call ⟨.builtin .clear, #[x], #[sT]⟩, ty, ps, af, g⟩).run P w = .ok (.value (.tuple #[])) w' := by
      obtain ⟨m, hm⟩ : ∃ m, l.length - n = m + 1 := ⟨l.length - n - 1, by omega⟩
      rw [hm] at hrun
      have hx' := hr.eval hx
      simp only [subVx, bldVx, if_neg hc, hm, Nat.zero_add] at hx'
      have hcl : (Builtin.clear_ #[sT] ty #[.slice (some ⟨b, n * sz, none⟩) (m + 1) (cap - n)]).run P w = .ok (.tuple #[]) w' := by
        simp [Builtin.clear_, run_underlying hT, hz, hrun]
      simp only [execOp, resolve]
      simp [invoke, builtin, hx', hcl]
    rw [hrun']
    have hst := hs'.upd (i := 0) rfl hb' hkk e1 e2 e3 e4 e5 hw
    have e : putL (cat enc l ++ tl).toArray (n * sz + 0) (Builtin.zeroCells z.cells (l.length - n)).toList = (cat enc (l.take n) ++ ((Builtin.zeroCells z.cells (l.length - n)).toList ++ tl)).toArray := by
      rw [Nat.add_zero, getL_putL _ _ _ (by rw [hzl, List.size_toArray, List.length_append]; omega), hzl, hle, List.toList_toArray]
      have h1 : cat enc l = cat enc (l.take n) ++ cat enc (l.drop n) := by rw [← cat_append, List.take_append_drop]
      have h3 : (cat enc (l.take n)).length = n * sz := by rw [cat_len hk, List.length_take, Nat.min_eq_left hn]
      have e1 : (cat enc l ++ tl).take (n * sz) = cat enc (l.take n) := by
        rw [List.take_append_of_le_length (by omega), h1, ← h3]; exact List.take_left
      have e2 : (cat enc l ++ tl).drop (l.length * sz) = tl := by rw [← hlen]; exact List.drop_left
      rw [e1, e2, List.append_assoc]
    have h9 := h ((Builtin.zeroCells z.cells (l.length - n)).toList ++ tl) ⟨by rw [List.length_take, Nat.min_eq_left hn]; have := hok.1; omega, hok.2.1, by
      have := hok.2.2
      rw [List.length_append, hlen] at this
      rw [List.length_append, cat_len hk, List.length_take, Nat.min_eq_left hn, List.length_append, hzl]; omega⟩
    rw [e] at hst
    exact ⟨hst.hp.right, h9 _ _ hr hst⟩
  · have h0 : l.length - l.length = 0 := Nat.sub_self _
    have hrun' : (execOp a.eval ⟨none, .call ⟨.builtin .clear, #[x], #[sT]⟩, ty, ps, af, g⟩).run P w = .ok (.value (.tuple #[])) w := by
      have hx' := hr.eval hx
      simp only [subVx, bldVx, h0] at hx'
      have hcl : ∀ a c, (Builtin.clear_ #[sT] ty #[.slice a 0 c]).run P w = .ok (.tuple #[]) w := fun a c => by
        cases a <;> simp [Builtin.clear_, run_underlying hT]
      simp only [execOp, resolve]
      simp [invoke, builtin, hx', hcl]
    rw [hrun']
    have h9 := h tl (by rw [List.take_length]; exact hok)
    rw [List.take_length] at h9
    exact ⟨hs'.hp.right, h9 _ _ hr hs'⟩
end te
end Go.Mv

namespace Go.Mv
open Go Go.Proofs
theorem u8_lt {a b : Int} (ha : 0 ≤ a ∧ a ≤ 255) (hb : 0 ≤ b ∧ b ≤ 255) : a.toNat.toUInt8 < b.toNat.toUInt8 ↔ a < b := by
  rw [UInt8.lt_iff_toNat_lt]
  simp only [Nat.toUInt8_eq, UInt8.toNat_ofNat']
  rw [Nat.mod_eq_of_lt (by omega), Nat.mod_eq_of_lt (by omega)]
  omega
def byI (f : Nat → Int) (i n : Nat) : List UInt8 := (List.range' i n).map fun j => (f j).toNat.toUInt8
theorem cmpB {f g : Nat → Int} (hf : IdOk f) (hg : IdOk g) : ∀ n i, Lib.compareBytes (byI f i n) (byI g i n) = cmpF f g n i
  | 0, i => rfl
  | n + 1, i => by
    have h := cmpB hf hg n (i + 1)
    unfold byI at h ⊢
    simp only [List.range'_succ, List.map_cons, Lib.compareBytes, cmpF, u8_lt (hf i) (hg i), u8_lt (hg i) (hf i), h]
theorem run_loadB {P : Program} {b off : Nat} (f : Nat → Int) (w : World) : ∀ (n i : Nat) (acc : ByteArray), (∀ j, i ≤ j → j < i + n → w.cell? ⟨b, off + j, none⟩ = some (.int .u8 (f j))) →
    ∃ r : ByteArray, (Extern.Bytes.loadBytes ⟨b, off + i, none⟩ n acc).run P w = .ok r w ∧ r.data.toList = acc.data.toList ++ byI f i n
  | 0, i, acc, _ => ⟨acc, rfl, by simp [byI]⟩
  | n + 1, i, acc, h => by
    obtain ⟨r, h1, h2⟩ := run_loadB f w n (i + 1) (acc.push (f i).toNat.toUInt8) (fun j h1 h2 => h j (by omega) (by omega))
    refine ⟨r, ?_, ?_⟩
    · have hc := h i (Nat.le_refl _) (by omega)
      have h1 : Sem.run P (Extern.Bytes.loadBytes ⟨b, off + i + 1, none⟩ n (acc.push (f i).toNat.toUInt8)) w = .ok r w := h1
      simp [Extern.Bytes.loadBytes, hc, add_none, h1]
    · rw [h2]; simp [byI, List.range'_succ, ByteArray.push]
section rd
variable {P : Program} {ty : TypeId} {E : Env} {L : Mem} {v u : Value} {x y z : Operand} {T U : TypeId}
/-- A call of a function for which the model stands in. -/
theorem RD.call_extern {f : Operand} {xs : Array Operand} {ats : Array TypeId} {fid : FuncId} {vs : List Value} (hf : evalE E f = some (.func (.func fid) #[] #[])) (ha : evalL E xs.toList = some vs) (hr : ∀ w, Hp L w → (callFunc fid vs.toArray).run P w = .ok (.value v) w) : RD P (.call ⟨.value f, xs, ats⟩) ty E L v := fun ρ w _ _ _ _ hρ hL => by
  have e : xs.map ρ = vs.toArray := by apply Array.toList_inj.1; simpa using evalL_map hρ _ _ ha
  have h := hr w hL
  simp only [execOp, resolve, hρ _ _ hf, e, Deferred.ofValue]
  simp only [Sem.run_bind, Sem.run_pure, Result.andThen_ok, invoke]
  simpa using h
/-- copy out of no slice. -/
theorem RD.copyNil {b o dLen dCap : Nat} {dT sT el : TypeId} {n : Nat} (hT : P.underlying dT = some (.slice el)) (hz : ∀ w, (sizeOf el).run P w = .ok n w) (hx : evalE E x = some (.slice (some ⟨b, o, none⟩) dLen dCap)) (hy : evalE E y = some (.slice none 0 0)) : RD P (.call ⟨.builtin .copy, #[x, y], #[dT, sT]⟩) ty E L (.int .i64 0) :=
  RD.call_builtin (vs := [.slice (some ⟨b, o, none⟩) dLen dCap, .slice none 0 0]) (by simp [evalL, hx, hy]) (fun w _ => by
    simp [builtin, Builtin.copy_, run_underlying hT, hz, Builtin.lenOf, Builtin.firstCells, goInt, storeCells])
end rd
/-- bytealg.Compare of two ids' bytes. -/
theorem run_cmpIds {P : Program} {fid : FuncId} {fn : Func} (hf : P.funcs[fid]? = some fn) (hname : (fn.name == "runtime.NumGoroutine") = false) (hb : fn.body.isNone = true) (hn : Extern.findNext fn = none) (he : Extern.find fn = some Extern.BytealgCompare.compare)
    {f g : Nat → Int} (hfo : IdOk f) (hgo : IdOk g) {b1 o1 c1 b2 o2 c2 : Nat} {w : World} (h1 : ∀ j, j < 32 → w.cell? ⟨b1, o1 + j, none⟩ = some (.int .u8 (f j))) (h2 : ∀ j, j < 32 → w.cell? ⟨b2, o2 + j, none⟩ = some (.int .u8 (g j))) :
    (callFunc fid #[.slice (some ⟨b1, o1, none⟩) 32 c1, .slice (some ⟨b2, o2, none⟩) 32 c2]).run P w = .ok (.value (.int .i64 (idCmp f g))) w := by
  obtain ⟨r1, e1, d1⟩ := run_loadB (P := P) f w 32 0 .empty (fun j _ h => h1 j (by omega))
  obtain ⟨r2, e2, d2⟩ := run_loadB (P := P) g w 32 0 .empty (fun j _ h => h2 j (by omega))
  have e1 : Sem.run P (Extern.Bytes.loadBytes ⟨b1, o1, none⟩ 32 .empty) w = .ok r1 w := e1
  have e2 : Sem.run P (Extern.Bytes.loadBytes ⟨b2, o2, none⟩ 32 .empty) w = .ok r2 w := e2
  have hc : Extern.BytealgCompare.cmp r1 r2 = idCmp f g := by
    rw [Lib.cmp_eq, d1, d2]; exact cmpB hfo hgo 32 0
  have hcmp : (Extern.BytealgCompare.compare #[.slice (some ⟨b1, o1, none⟩) 32 c1, .slice (some ⟨b2, o2, none⟩) 32 c2]).run P w = .ok (.int .i64 (idCmp f g)) w := by
    change Sem.run P (do pure (goInt (Extern.BytealgCompare.cmp (← Extern.Bytes.bytesOf (.slice (some ⟨b1, o1, none⟩) 32 c1)) (← Extern.Bytes.bytesOf (.slice (some ⟨b2, o2, none⟩) 32 c2))))) w = _
    simp only [Extern.Bytes.bytesOf, Sem.run_bind, e1, e2, Sem.run_pure, Result.andThen]
    rw [hc]; rfl
  rw [run_callFunc_extern hf hname hb hn he, hcmp]
  rfl
theorem id_slice {H : Mem} {w : World} {i b : Nat} {t : Nat → Int} {u : TypeId} (hw : Hp H w) (hi : H[i]? = some (b, .cells (idV t).cells u (0, 0))) : ∀ j, j < 32 → w.cell? ⟨b, 0 + j, none⟩ = some (.int .u8 (t j)) := fun j hj => by
  rw [cell_of hw hi, Nat.zero_add]; exact id_at t hj
end Go.Mv

namespace Go.Mv
open Go Go.Proofs
def gt {α : Type} [Inhabited α] (l : List α) (i : Nat) : α := l.getD i default
section gt
variable {α : Type} [Inhabited α] {l m : List α} {i : Nat}
theorem gt_some (h : i < l.length) : l[i]? = some (gt l i) := by
  unfold gt; rw [List.getD_eq_getElem?_getD, List.getElem?_eq_getElem h]; rfl
theorem gt_mem (h : i < l.length) : gt l i ∈ l := List.mem_of_getElem? (gt_some h)
end gt
section code
variable {P : Program} {rd : Option Nat} {p : Pst} {C : Ctx} {E : Env} {H : Mem} {ops : Array Oper} {id : Nat}
theorem pn_plainG (q : List Nat) (M0 : Mem) {n : Nat} (hn : ops.size = n) (hc : ∀ a, cnt a M0 ≤ cnt a H) (h : TE P rd ops p q C [] (line 0 n) E M0) : PN C (WP P rd (.region id ops false) p) E H :=
  pn_sp M0 hc (pn_plain q hn h)
theorem pn_drawG (q : List Nat) (M0 L0 : Mem) {n : Nat} (hn : ops.size = n) (hm : P.follows .mixedOrders = true) (hc : chk ops (ld ops q) (Region.before ops) = true)
    (hs : ∀ a, cnt a (M0 ++ L0) ≤ cnt a H) (h : TE P rd ops p q C L0 (line 0 n) E M0) : PN C (WP P rd (.region id ops true) p) E H :=
  pn_sp (M0 ++ L0) hs fun a w hr hw => by
    refine wp_draw hm hc hw.hp.right.drew ?_
    rw [hn, List.range_eq_range', ← TT_line]
    exact h a w.drew hr ⟨hw.fr.drew, hw.hp.drew⟩
theorem pn_drawLG (q : List Nat) (M0 L0 : Mem) (t : Tr) (hm : P.follows .mixedOrders = true) (hp : plainOps ops = true) (hc : chkL ops (ld ops q) ops.size [(Array.replicate ops.size false, t)] = true)
    (hs : ∀ a, cnt a (M0 ++ L0) ≤ cnt a H) (h : TE P rd ops p q C L0 t E M0) : PN C (WP P rd (.region id ops true) p) E H :=
  pn_sp (M0 ++ L0) hs fun a w hr hw => by
    exact wp_drawT hm hp (chkT_of_L ops (ld ops q) ops.size _ hc (Array.replicate ops.size false, t) List.mem_cons_self) hw.hp.right.drew (h a w.drew hr ⟨hw.fr.drew, hw.hp.drew⟩)
end code
def slp : Value → Nat → Value
  | .slice (some ⟨b, off, _⟩) _ _, o => .pointer (some ⟨b, off + o, none⟩)
  | v, _ => v
section rd
variable {P : Program} {ty : TypeId} {E : Env} {L H : Mem} {v u : Value} {x y z : Operand} {T U : TypeId}
section els
variable {α : Type} {sz : Nat} {enc : α → List Value} {l : List α}
theorem RD.idxR {el : TypeId} {k : IntKind} {i o : Nat} {c : Int} (hT : ∀ w, (underlying T).run P w = .ok (.slice el) w) (hz : ∀ w, (sizeOf el).run P w = .ok sz w) (hx : evalE E x = some v) (hb : Rdx sz enc H v l)
    (hy : evalE E y = some (.int k c)) (hi : c = (i : Int)) (h : i < l.length) (ho : i * sz = o) : RD P (.indexAddr T x y) ty E L (slp v o) := by
  subst ho
  rcases hb with ⟨rfl, rfl⟩ | ⟨b, off, cap, rfl, hcap, hc⟩
  · simp at h
  · exact RD.indexX hT hz hx hy hi h
theorem RD.fldR {f i o o' n : Nat} {fs : Array Field} {fl : Field} (hS : ∀ w, (underlying T).run P w = .ok (.struct fs) w) (hf : fs[f]? = some fl) (ho : o + fl.offset = o') (hz : ∀ w, (sizeOf fl.type).run P w = .ok (n + 1) w)
    (hx : evalE E x = some (slp v o)) (hb : Rdx sz enc H v l) (h : i < l.length) : RD P (.fieldAddr T x f) ty E L (slp v o') := by
  rcases hb with ⟨rfl, rfl⟩ | ⟨b, off, cap, rfl, hcap, hc⟩
  · simp at h
  · exact RD.fieldAddr hS hf (by rw [Nat.add_assoc, ho]) hz hx
theorem RD.ldR {i j o : Nat} {a : α} (ha : ∀ w, (isAgg T).run P w = .ok false w) (hx : evalE E x = some (slp v o)) (hb : Rdx sz enc H v l) (hi : l[i]? = some a) (ho : o = i * sz + j) (hu : (enc a)[j]? = some u)
    (hm : ∀ w, Hp L w → Hp H w) : RD P (.load T x) ty E L u := by
  rcases hb with ⟨rfl, rfl⟩ | ⟨b, off, cap, rfl, hcap, hc⟩
  · simp at hi
  · subst ho
    exact RD.loadC ha hx (fun w hw => by rw [← Nat.add_assoc]; exact hc w (hm w hw) i a hi j u hu)
theorem RD.ldRA {i j o n : Nat} {a : α} {vs : List Value} (ha : ∀ w, (isAgg T).run P w = .ok true w) (hs : ∀ w, (sizeOf T).run P w = .ok n w) (hx : evalE E x = some (slp v o)) (hb : Rdx sz enc H v l) (hi : l[i]? = some a)
    (ho : o = i * sz + j) (hn : vs.length = n) (hu : ∀ t w, vs[t]? = some w → (enc a)[j + t]? = some w) (hv : Value.agg vs.toArray = u) (hm : ∀ w, Hp L w → Hp H w) : RD P (.load T x) ty E L u := by
  subst hv
  rcases hb with ⟨rfl, rfl⟩ | ⟨b, off, cap, rfl, hcap, hc⟩
  · simp at hi
  · subst ho
    exact RD.loadX ha hs hx hn (fun w hw t u ht => by rw [← Nat.add_assoc, Nat.add_assoc (off + i * sz)]; exact hc w (hm w hw) i a hi (j + t) u (hu t u ht))
end els
end rd
section te
variable {P : Program} {rd : Option Nat} {ops : Array Oper} {p : Pst} {q : List Nat} {C : Ctx} {L M : Mem} {k : Nat} {tr : Tr} {E : Env}
variable {d : Nat} {ty : TypeId} {ps : String} {af : Array Edge} {g : Option (Nat × Bool)}
theorem TE_allocC {T : TypeId} {z : Value} (cs : Array Value) (ho : ops[k]? = some ⟨some d, .alloc T, ty, ps, af, g⟩) (hz : ∀ w, (zeroValue T).run P w = .ok z w) (hcs : z.cells = cs) (hg : GOK ops E g) (hd : Nat.blt d C.N = true)
    (h : ∀ b, C.w0.heap.size ≤ b → TE P rd ops p q C L tr ((d, .pointer (some ⟨b, 0, none⟩)) :: E) ((b, .cells cs T (0, 0)) :: M)) : TE P rd ops p q C L (.op k tr) E M := by
  subst hcs; exact TE_alloc ho hz hg hd h
theorem TE_boxC {T : TypeId} {x : Operand} {u : Value} (cs : Array Value) (ho : ops[k]? = some ⟨some d, .box T x, ty, ps, af, g⟩) (hx : evalE E x = some u) (hcs : u.cells = cs) (hg : GOK ops E g) (hd : Nat.blt d C.N = true)
    (h : ∀ b, C.w0.heap.size ≤ b → TE P rd ops p q C L tr ((d, .pointer (some ⟨b, 0, none⟩)) :: E) ((b, .cells cs T (0, 0)) :: M)) : TE P rd ops p q C L (.op k tr) E M := by
  subst hcs; exact TE_box ho hx hg hd h
/-- A store of one cell. -/
theorem TE_storeC {T : TypeId} {x y : Operand} {b off : Nat} {t : TypeId} {v : Value} (i : Nat) (cs cs' : Array Value) (M' : Mem) (ho : ops[k]? = some ⟨none, .store T x y, ty, ps, af, g⟩) (hs : ∀ w, (sizeOf T).run P w = .ok 1 w) (hg : GOK ops E g)
    (hx : evalE E x = some (.pointer (some ⟨b, off, none⟩))) (hy : evalE E y = some v) (h1 : v.cells.toList = [v]) (h1' : v.oneCell' = true) (hi : M[i]? = some (b, .cells cs t (0, 0))) (hlen : Nat.blt off cs.size = true)
    (hcs : cs.setIfInBounds off v = cs') (hM : M.set i (b, .cells cs' t (0, 0)) = M') (hw : C.w0.heap.size ≤ b ∨ b ∈ C.X) (h : TE P rd ops p q C L tr E M') : TE P rd ops p q C L (.op k tr) E M := by
  subst hM; subst hcs; exact TE_store ho hs hg hx hy h1 h1' hi hlen hw h
/-- A store of several. -/
theorem TE_putC {T : TypeId} {x y : Operand} {b off n : Nat} {t : TypeId} {v : Value} (i : Nat) (cs cs' : Array Value) (M' : Mem) (ho : ops[k]? = some ⟨none, .store T x y, ty, ps, af, g⟩) (hs : ∀ w, (sizeOf T).run P w = .ok n w) (hg : GOK ops E g)
    (hx : evalE E x = some (.pointer (some ⟨b, off, none⟩))) (hy : evalE E y = some v) (hn : Nat.beq v.cells.size n = true) (h1 : (v.cells.toList.all fun u => u.oneCell') = true) (hi : M[i]? = some (b, .cells cs t (0, 0))) (hlen : Nat.ble (off + n) cs.size = true)
    (hcs : putL cs off v.cells.toList = cs') (hM : M.set i (b, .cells cs' t (0, 0)) = M') (hw : C.w0.heap.size ≤ b ∨ b ∈ C.X) (h : TE P rd ops p q C L tr E M') : TE P rd ops p q C L (.op k tr) E M := by
  subst hM; subst hcs; exact TE_put ho hs hg hx hy hn h1 hi hlen hw h
/-- .. a whole block. -/
theorem TE_putCW {T : TypeId} {x y : Operand} {b n : Nat} {t : TypeId} {v : Value} (i : Nat) (cs cs' : Array Value) (M' : Mem) (ho : ops[k]? = some ⟨none, .store T x y, ty, ps, af, g⟩) (hs : ∀ w, (sizeOf T).run P w = .ok n w) (hg : GOK ops E g)
    (hx : evalE E x = some (.pointer (some ⟨b, 0, none⟩))) (hy : evalE E y = some v) (hn : Nat.beq v.cells.size n = true) (h1 : (v.cells.toList.all fun u => u.oneCell') = true) (hi : M[i]? = some (b, .cells cs t (0, 0))) (hlen : Nat.beq cs.size n = true)
    (hcs : v.cells = cs') (hM : M.set i (b, .cells cs' t (0, 0)) = M') (hw : C.w0.heap.size ≤ b ∨ b ∈ C.X) (h : TE P rd ops p q C L tr E M') : TE P rd ops p q C L (.op k tr) E M := by
  subst hM; subst hcs; exact TE_putW ho hs hg hx hy hn h1 hi hlen hw h
/-- A call that reads alone; what it lays comes ahead. -/
theorem TE_callG {f : Operand} {xs : Array Operand} {ats : Array TypeId} {fid : FuncId} {fs cap : Array Value} {vs : List Value} (post : Value → Mem → Prop) (H0 : Mem) (ho : ops[k]? = some ⟨some d, .call ⟨.value f, xs, ats⟩, ty, ps, af, g⟩) (hl : ld ops q k = true) (hg : GOK ops E g)
    (hen : ∀ args w, (callFunc fid args).run P w = .ok (.enter fid args) w) (hf : evalE E f = some (.func (.func fid) fs cap)) (ha : evalL E xs.toList = some vs) (hd : Nat.blt d C.N = true)
    (hc : ∀ w, Hp H0 w → Calls P fid (fs.toList ++ vs ++ cap.toList).toArray w (Ret w [] post)) (hs : ∀ a, cnt a H0 ≤ cnt a (M ++ L))
    (h : ∀ v H1, post v H1 → (∀ e ∈ H1, C.w0.heap.size ≤ e.1) → TE P rd ops p q C L tr ((d, v) :: E) (H1 ++ M)) : TE P rd ops p q C L (.op k tr) E M :=
  TE_call ho hl hg hen hf ha hd (fun w hw => hc w (hw.hp.sp hs)) h
/-- A call that turns the blocks of R. -/
theorem TE_callM {f : Operand} {xs : Array Operand} {ats : Array TypeId} {fid : FuncId} {fs cap : Array Value} {vs : List Value} (post : Value → Mem → Prop) (R A H0 : Mem) (ho : ops[k]? = some ⟨some d, .call ⟨.value f, xs, ats⟩, ty, ps, af, g⟩) (hl : ld ops q k = true) (hg : GOK ops E g)
    (hen : ∀ args w, (callFunc fid args).run P w = .ok (.enter fid args) w) (hf : evalE E f = some (.func (.func fid) fs cap)) (ha : evalL E xs.toList = some vs) (hd : Nat.blt d C.N = true)
    (hX : ∀ e ∈ R, C.w0.heap.size ≤ e.1 ∨ e.1 ∈ C.X) (hM : ∀ a, cnt a (A ++ R) ≤ cnt a M)
    (hc : ∀ w, Hp H0 w → Calls P fid (fs.toList ++ vs ++ cap.toList).toArray w (Ret w (keys R) post)) (hs : ∀ a, cnt a H0 ≤ cnt a (A ++ R ++ L))
    (h : ∀ v H1, post v H1 → (∀ e ∈ H1, C.w0.heap.size ≤ e.1 ∨ e.1 ∈ C.X) → TE P rd ops p q C L tr ((d, v) :: E) (A ++ H1)) : TE P rd ops p q C L (.op k tr) E M :=
  TE_callR A R hM ho hl hg hen hf ha hd hX (fun w hw => hc w (hw.hp.sp hs)) h
end te
theorem ownN {C : Ctx} {H : Mem} (h : ∀ e ∈ H, C.w0.heap.size ≤ e.1) : ∀ e ∈ H, C.w0.heap.size ≤ e.1 ∨ e.1 ∈ C.X := fun e he => .inl (h e he)
@[simp] theorem bldVx_none {α : Type} (l : List α) : bldVx l none = .slice none 0 0 := rfl
theorem own0 {n : Nat} {X : List Nat} : ∀ e ∈ ([] : Mem), n ≤ e.1 ∨ e.1 ∈ X := fun _ he => nomatch he
theorem ownC {n : Nat} {X : List Nat} {b : Nat} {o : Obj} {H : Mem} (h1 : n ≤ b ∨ b ∈ X) (h2 : ∀ e ∈ H, n ≤ e.1 ∨ e.1 ∈ X) : ∀ e ∈ (b, o) :: H, n ≤ e.1 ∨ e.1 ∈ X := fun e he => by
  rcases List.mem_cons.1 he with rfl | he
  · exact h1
  · exact h2 e he
theorem ownA {n : Nat} {X : List Nat} {A B : Mem} (h1 : ∀ e ∈ A, n ≤ e.1 ∨ e.1 ∈ X) (h2 : ∀ e ∈ B, n ≤ e.1 ∨ e.1 ∈ X) : ∀ e ∈ A ++ B, n ≤ e.1 ∨ e.1 ∈ X := fun e he => by
  rcases List.mem_append.1 he with he | he
  · exact h1 e he
  · exact h2 e he
theorem bvx_cells {α : Type} (l : List α) (st : SnkS) : (bldVx l st).cells.toList = [bldVx l st] := by
  rcases st with _ | ⟨b, c, tl⟩ <;> rfl
theorem bvx_one {α : Type} (l : List α) (st : SnkS) : (bldVx l st).oneCell' = true := by
  rcases st with _ | ⟨b, c, tl⟩ <;> rfl
theorem upon_Q {F : Fence} {n : Nat} {P : Program} {o : Oper} {a : Act} {w : World} {K : Act → World → Prop} {Q Q' : Exit → Act → World → Prop} (hP : ∀ c a w, Q (.panic c) a w → Q' (.panic c) a w) (hO : LetsOut Q → LetsOut Q')
    (hh : o.wpIn F n P a w K Q) : o.wpIn F n P a w K Q' := by
  unfold Oper.wpIn at *
  refine ⟨hh.1, ?_⟩
  have hh := hh.2
  generalize (o.semAt F.round a.eval).run P w = r at *
  cases r with
  | ok x w' =>
    cases x <;> simp only [Oper.uponIn] at hh ⊢ <;>
      first
        | exact hh
        | exact ⟨hh.1, CallsIn.mono hh.2 (fun e w'' he => by cases e <;> first | exact he | exact hP _ _ _ he | exact hO he)⟩
        | exact ⟨hh.1, RowsIn.mono hh.2 (fun _ _ he => he)⟩
        | exact ⟨hh.1, RoundIn.mono hh.2 (fun e w'' he => by cases e <;> first | exact he | exact hP _ _ _ he | exact hO he)⟩
  | halt x w' => cases x <;> simp only [Oper.uponIn] at hh ⊢ <;> first | exact hh | exact hP _ _ _ hh | exact hO hh
theorem wpOpIn_Q {F : Fence} {n i : Nat} {P : Program} {ops : Array Oper} {a : Act} {w : World} {K : Act → World → Prop} {Q Q' : Exit → Act → World → Prop} (hP : ∀ c a w, Q (.panic c) a w → Q' (.panic c) a w) (hO : LetsOut Q → LetsOut Q')
    (hh : wpOpIn F n P ops Q i K a w) : wpOpIn F n P ops Q' i K a w := by
  unfold wpOpIn at *
  split
  · rename_i ho; simpa only [ho] using hh
  · rename_i o ho
    simp only [ho] at hh
    split
    · rename_i hw; simp only [hw, if_true] at hh; exact upon_Q hP hO hh
    · rename_i hw; simp only [hw] at hh; exact hh
theorem TT_monoN {P : Program} {rd : Option Nat} {ops : Array Oper} {p : Pst} {n' : Act → World → Prop} {Lp : World → Prop} {loud : Nat → Bool} (hn : ∀ a w, n' a w → p.n a w) :
    ∀ (t : Tr) (a : Act) (w : World), TT P rd ops ({ p with n := n' } : Pst).Q Lp loud t a w → TT P rd ops p.Q Lp loud t a w
  | .nil, a, w, h => hn a w h
  | .fork s t, a, w, h => ⟨TT_monoN hn s a w h.1, TT_monoN hn t a w h.2⟩
  | .op i t, a, w, h => by
    rw [TT_op] at h ⊢
    unfold TS at h ⊢
    split
    · rename_i hi; rw [hi] at h; exact h
    · rename_i o hi
      rw [hi] at h
      dsimp only at h ⊢
      split
      · rename_i hl
        rw [if_pos hl] at h
        refine wpOpIn_Q (Q := ({ p with n := n' } : Pst).Q) (fun c a w hx => hx) (fun ⟨a, w, hx⟩ => ⟨a, w, hx⟩) ?_
        exact wpOpIn_mono (fun a w hk => ⟨hk.1, TT_monoN hn t a w hk.2⟩) h
      · rename_i hl
        rw [if_neg hl] at h
        obtain ⟨v, hv, ht⟩ := h
        exact ⟨v, hv, TT_monoN hn t _ w ht⟩
section te2
variable {P : Program} {rd : Option Nat} {ops : Array Oper} {p : Pst} {q : List Nat} {C : Ctx} {L M : Mem} {k : Nat} {tr : Tr} {E : Env}
variable {ty : TypeId} {ps : String} {af : Array Edge} {op : Op}
theorem TE_join {σ : Type} (EE : σ → Env) (HH : σ → Mem) (I : σ → Prop) (h1 : TE P rd ops { p with n := fun a w => ∃ s, I s ∧ Rep C.N C.ds (EE s) a ∧ St C.w0 C.X (HH s) w } q C L tr E M) (h2 : ∀ s, I s → PN C p.n (EE s) (HH s)) : TE P rd ops p q C L tr E M :=
  fun a w hr hs => TT_monoN (fun a w ⟨s, hI, hr, hs⟩ => h2 s hI a w hr hs) tr a w (h1 a w hr hs)
/-- copy out of what can be read, all of it, into a block. -/
theorem TE_copyR {α : Type} {enc : α → List Value} {x y : Operand} {dT sT el : TypeId} {by' : Nat} {z xv : Value} {b o dLen dCap : Nat} {t : TypeId} {H0 : Mem} {d : Nat} {g : Option (Nat × Bool)} (i : Nat) (ys : List α) (cur cur' : Array Value) (M' : Mem) (ho : ops[k]? = some ⟨some d, .call ⟨.builtin .copy, #[x, y], #[dT, sT]⟩, ty, ps, af, g⟩) (hl : ld ops q k = true) (hg : GOK ops E g) (hd : Nat.blt d C.N = true)
    (hT : P.underlying dT = some (.slice el)) (hz : ∀ w, (sizeOf el).run P w = .ok 1 w) (hI : ElI P el 1 by' z) (hk : ∀ x, (enc x).length = 1) (h1 : ∀ x, ∀ v ∈ enc x, v.oneCell' = true) (hx : evalE E x = some (.slice (some ⟨b, o, none⟩) dLen dCap)) (hy : evalE E y = some xv)
    (hb : Rdx 1 enc H0 xv ys) (hm : ∀ w, Hp (M ++ L) w → Hp H0 w) (hn : ys.length ≤ dLen) (hi : M[i]? = some (b, .cells cur t (0, 0))) (hfit : o + ys.length ≤ cur.size) (hw : C.w0.heap.size ≤ b ∨ b ∈ C.X)
    (hc : putL cur o (cat enc ys) = cur') (hM : M.set i (b, .cells cur' t (0, 0)) = M') (h : TE P rd ops p q C L tr ((d, .int .i64 ys.length) :: E) M') : TE P rd ops p q C L (.op k tr) E M := by
  subst hc; subst hM
  have hlen : (cat enc ys).length = ys.length := by rw [cat_len hk, Nat.mul_one]
  rcases hb with ⟨rfl, rfl⟩ | ⟨b', off, cap, rfl, hcap, hcell⟩
  · rw [show putL cur o (cat enc ([] : List α)) = cur from rfl, set_same hi] at h
    exact TE_l ho hl hg rfl (RD.copyNil hT hz hx hy) hd h
  · refine TE_copy ho hl hg hd hT hI hx hy (cs := cat enc ys) (by rw [hlen]; exact (Nat.min_eq_left hn).symm) (fun w hw j u hj => ?_) hi (by rw [hlen]; exact hfit) (cat_one h1 ys) hw (by rw [hlen]; exact h)
    obtain ⟨a, ha, hu, _⟩ := cat_out hk (by omega) hj
    rw [Nat.div_one] at ha; rw [Nat.mod_one] at hu
    have := hcell w (hm w hw) j a ha 0 u hu
    rw [add_none]; simpa using this
end te2
end Go.Mv

namespace Go.Mv
open Go Go.Proofs
section call
variable {P : Program} {rd : Option Nat} {ops : Array Oper} {p : Pst} {q : List Nat} {C : Ctx} {L M : Mem} {k : Nat} {tr : Tr} {E : Env}
variable {d : Nat} {ty : TypeId} {ps : String} {af : Array Edge} {g : Option (Nat × Bool)}
/-- At an interface's dynamic type T the method is the function f, its receiver the value itself. -/
def InvOk (P : Program) (T : TypeId) (name : String) (fid : FuncId) : Prop := ∀ v args w, (callMethod (.iface T v) name args).run P w = .ok (.enter fid (#[v] ++ args)) w
theorem invOk_of {T : TypeId} {name : String} {f : FuncId} {i : TypeInfo} {m : Method} {d0 : TypeDesc} (hi : P.info? T = some i) (hm : i.methods.find? (·.name == name) = some m) (hp : m.path.toList = []) (hf : m.func = some (f, false)) (hu : P.underlying T = some d0) (hd : ∀ e, d0 ≠ .pointer e)
    (hen : ∀ args w, (callFunc f args).run P w = .ok (.enter f args) w) : InvOk P T name f := fun v args w => by
  have hti : ∀ w, (typeInfo T).run P w = .ok i w := fun w => by simp [typeInfo, hi]
  unfold callMethod
  obtain ⟨n, hn⟩ : ∃ n, P.types.size + Made.depth = n + 1 := ⟨_, rfl⟩
  simp only [Sem.run_bind, run_program, Result.andThen_ok, hn, method, hti, hm, hp, hf, follow]
  simp only [Sem.run_pure, Result.andThen_ok, Sem.run_bind, receiverAt, run_underlying hu]
  cases d0 with
  | pointer e => exact absurd rfl (hd e)
  | _ => simp [Place.get, hen]
theorem run_invoke_go {r : Operand} {name : String} {xs : Array Operand} {ats : Array TypeId} {fid : FuncId} {T : TypeId} {rv : Value} {vs : List Value} {ρ : Operand → Value} {dst : Option Tmp} (hi : InvOk P T name fid)
    (hρ : ∀ x u, evalE E x = some u → ρ x = u) (hr : evalE E r = some (.iface T rv)) (ha : evalL E xs.toList = some vs) (w : World) :
    (execOp ρ ⟨dst, .call ⟨.invoke r name, xs, ats⟩, ty, ps, af, g⟩).run P w = .ok (.enter fid ((rv :: vs).toArray)) w := by
  have e : xs.map ρ = vs.toArray := by
    apply Array.toList_inj.1
    simpa using evalL_map hρ xs.toList vs ha
  have e2 : (#[Value.iface T rv] ++ vs.toArray).extract 1 (#[Value.iface T rv] ++ vs.toArray).size = vs.toArray := by
    apply Array.toList_inj.1
    simp
  simp only [execOp, resolve, e, hρ _ _ hr, Sem.run_bind, Sem.run_pure, Result.andThen, invoke]
  have e3 : (#[Value.iface T rv] ++ vs.toArray)[0]? = some (Value.iface T rv) := by simp
  rw [e3]
  simp only [e2]
  rw [hi rv vs.toArray w]
  congr 2
  apply Array.toList_inj.1
  simp
theorem TE_invM {r : Operand} {name : String} {xs : Array Operand} {ats : Array TypeId} {fid : FuncId} {T : TypeId} {rv : Value} {vs : List Value} (post : Value → Mem → Prop) (R A H0 : Mem) (hi : InvOk P T name fid) (ho : ops[k]? = some ⟨some d, .call ⟨.invoke r name, xs, ats⟩, ty, ps, af, g⟩) (hl : ld ops q k = true) (hg : GOK ops E g)
    (hr' : evalE E r = some (.iface T rv)) (ha : evalL E xs.toList = some vs) (hd : Nat.blt d C.N = true) (hX : ∀ e ∈ R, C.w0.heap.size ≤ e.1 ∨ e.1 ∈ C.X) (hM : ∀ a, cnt a (A ++ R) ≤ cnt a M)
    (hc : ∀ w, Hp H0 w → Calls P fid (rv :: vs).toArray w (Ret w (keys R) post)) (hs : ∀ a, cnt a H0 ≤ cnt a (A ++ R ++ L))
    (h : ∀ v H1, post v H1 → (∀ e ∈ H1, C.w0.heap.size ≤ e.1 ∨ e.1 ∈ C.X) → TE P rd ops p q C L tr ((d, v) :: E) (A ++ H1)) : TE P rd ops p q C L (.op k tr) E M :=
  TE_sp (A ++ R) (fun a => by rw [cnt_append a (A ++ R), cnt_append a M]; have := hM a; omega) <| TE_loud ho hl hg rfl fun a w hr hs0 => by
    rw [run_invoke_go hi (fun x u hu => hr.eval hu) hr' ha w]
    refine ⟨fun h => by simp [Fw] at h, ?_⟩
    have hcc : CallsIn (Fw rd) 0 P fid (rv :: vs).toArray w (Ret w (keys R) post) := (callsIn_wide (n := 0)).2 (hc w (hs0.hp.sp hs))
    refine CallsIn.mono hcc ?_
    rintro e w' ⟨v, H1, rfl, hp, hfr, hH1, hnew⟩
    have hs' : St C.w0 C.X (A ++ L ++ R) w := hs0.perm (perm_mid A R L)
    obtain ⟨h1, h2⟩ := hs'.after hX hfr hH1 hnew
    have h1' : St C.w0 C.X (A ++ H1 ++ L) w' := h1.perm (perm_mid A L H1)
    exact ⟨h1'.hp.right, h v H1 hp h2 _ _ (hr.put (by simpa using hd) v) h1'⟩
end call
section maps
variable {κ β : Type} [DecidableEq κ] {ek : κ → Value} {ev : β → Value}
section rd
variable {P : Program} {ty : TypeId} {E : Env} {L : Mem} {x y : Operand} {T key elem : TypeId}
end rd
section te
variable {P : Program} {rd : Option Nat} {ops : Array Oper} {p : Pst} {q : List Nat} {C : Ctx} {L M : Mem} {k : Nat} {tr : Tr} {E : Env}
variable {d : Nat} {ty : TypeId} {ps : String} {af : Array Edge} {g : Option (Nat × Bool)}
end te
end maps
end Go.Mv

namespace Go.Mv
open Go Go.Proofs
section els
variable {α : Type} {enc : α → List Value} {sz : Nat}
end els
section te
variable {P : Program} {rd : Option Nat} {ops : Array Oper} {p : Pst} {q : List Nat} {C : Ctx} {L M : Mem} {k : Nat} {tr : Tr} {E : Env}
variable {ty : TypeId} {ps : String} {af : Array Edge} {g : Option (Nat × Bool)}
end te
section rd
variable {P : Program} {ty : TypeId} {E : Env} {L : Mem} {v u : Value} {x y z : Operand} {T U : TypeId} {a b : UInt32}
end rd
def slt (a b : ByteArray) : Bool := Op.bytesLess a.toList b.toList
def sle (a b : ByteArray) : Bool := slt a b || decide (a = b)
theorem bytesLess_irr : ∀ l : List UInt8, Op.bytesLess l l = false
  | [] => rfl
  | a :: l => by simp [Op.bytesLess, bytesLess_irr l]
theorem bytesLess_tri : ∀ a b : List UInt8, Op.bytesLess a b = true ∨ a = b ∨ Op.bytesLess b a = true
  | [], [] => .inr (.inl rfl)
  | [], _ :: _ => .inl rfl
  | _ :: _, [] => .inr (.inr rfl)
  | x :: a, y :: b => by
    simp only [Op.bytesLess, Bool.or_eq_true, decide_eq_true_eq, Bool.and_eq_true, beq_iff_eq]
    by_cases h : x = y
    · subst h
      rcases bytesLess_tri a b with h1 | h1 | h1
      · exact .inl (.inr ⟨rfl, h1⟩)
      · exact .inr (.inl (by rw [h1]))
      · exact .inr (.inr (.inr ⟨rfl, h1⟩))
    · by_cases h2 : x < y
      · exact .inl (.inl h2)
      · exact .inr (.inr (.inl (UInt8.lt_of_le_of_ne (UInt8.not_lt.1 h2) (Ne.symm h))))
theorem bytesLess_tr : ∀ {a b c : List UInt8}, Op.bytesLess a b = true → Op.bytesLess b c = true → Op.bytesLess a c = true
  | _, [], _, h, _ => by simp [Op.bytesLess] at h
  | _, _ :: _, [], _, h => by simp [Op.bytesLess] at h
  | [], _ :: _, _ :: _, _, _ => rfl
  | x :: a, y :: b, z :: c, h1, h2 => by
    simp only [Op.bytesLess, Bool.or_eq_true, decide_eq_true_eq, Bool.and_eq_true, beq_iff_eq] at *
    rcases h1 with h1 | ⟨rfl, h1⟩ <;> rcases h2 with h2 | ⟨rfl, h2⟩
    · exact .inl (UInt8.lt_trans h1 h2)
    · exact .inl h1
    · exact .inl h2
    · exact .inr ⟨rfl, bytesLess_tr h1 h2⟩
theorem toList_inj {a b : ByteArray} (h : a.toList = b.toList) : a = b := by
  have := string_beq a b
  rw [h] at this
  simp at this; exact this
theorem slt_irr (a : ByteArray) : slt a a = false := bytesLess_irr _
theorem slt_tr {a b c : ByteArray} (h1 : slt a b = true) (h2 : slt b c = true) : slt a c = true := bytesLess_tr h1 h2
theorem slt_tri (a b : ByteArray) : slt a b = true ∨ a = b ∨ slt b a = true := by
  rcases bytesLess_tri a.toList b.toList with h | h | h
  · exact .inl h
  · exact .inr (.inl (toList_inj h))
  · exact .inr (.inr h)
theorem slt_asym {a b : ByteArray} (h : slt a b = true) : slt b a = false := by
  cases h2 : slt b a with
  | false => rfl
  | true => have := slt_tr h h2; rw [slt_irr] at this; cases this
theorem sle_not (a b : ByteArray) : sle a b = !slt b a := by
  unfold sle
  rcases slt_tri a b with h | h | h
  · rw [h, slt_asym h]; rfl
  · subst h; rw [slt_irr]; simp
  · rw [h, slt_asym h]
    have : a ≠ b := fun e => by subst e; rw [slt_irr] at h; cases h
    simp [this]
section rd
variable {P : Program} {ty : TypeId} {E : Env} {L : Mem} {x y : Operand} {T U : TypeId} {a b : ByteArray}
theorem RD.leq_string (hx : evalE E x = some (.string a)) (hy : evalE E y = some (.string b)) : RD P (.binOp .leq T x y U) ty E L (.bool (sle a b)) :=
  RD.bin .leq (fun w => by simp [eqGuard, binOp, Op.stringOp, sle, slt, string_beq]) hx hy
end rd
end Go.Mv

namespace Go.Mv
open Go
def byteC (c : UInt8) : List Value := [bcell c]
theorem byteC_len (c : UInt8) : (byteC c).length = 1 := rfl
theorem byteC_one (c : UInt8) : ∀ v ∈ byteC c, v.oneCell' = true := by
  intro v hv
  simp only [byteC, List.mem_cons, List.not_mem_nil, or_false] at hv
  subst hv; rfl
theorem cat_byteC : ∀ l : List UInt8, cat byteC l = bcells l
  | [] => rfl
  | c :: r => by
    have := cat_byteC r
    simp only [cat, bcells, List.flatMap_cons, List.map_cons] at this ⊢
    rw [this]; rfl
theorem Rdb.of_x {H : Mem} {v : Value} {ys : List UInt8} (h : Rdx 1 byteC H v ys) : Rdb H v ys := by
  rcases h with h | ⟨b, off, cap, h1, h2, h3⟩
  · exact .inl h
  · refine .inr ⟨b, off, cap, h1, h2, fun w hw j u hu => ?_⟩
    obtain ⟨x, hx, rfl⟩ : ∃ x, ys[j]? = some x ∧ bcell x = u := by simpa [bcells] using hu
    have := h3 w hw j x hx 0 (bcell x) rfl
    rwa [Nat.mul_one, Nat.add_zero] at this
theorem bldMx_b {u : TypeId} {l : List UInt8} {st : SnkS} : bldMx u byteC l st = bldM u l st := by
  rcases st with _ | ⟨b, cap, tl⟩
  · rfl
  · simp only [bldMx, bldM, cat_byteC]
theorem bldVx_b {l : List UInt8} {st : SnkS} : bldVx l st = bldV l st := by
  rcases st with _ | ⟨b, cap, tl⟩ <;> rfl
theorem BldOk.of_snk {l : List UInt8} {st : SnkS} (h : SnkOk l st) : BldOk 1 byteC l st := by
  rcases st with _ | ⟨b, cap, tl⟩
  · exact h
  · exact ⟨h.1, h.2.1, by rw [cat_byteC]; exact h.2.2⟩
theorem SnkOk.of_bld {l : List UInt8} {st : SnkS} (h : BldOk 1 byteC l st) : SnkOk l st := by
  rcases st with _ | ⟨b, cap, tl⟩
  · exact h
  · exact ⟨h.1, h.2.1, by rw [← cat_byteC]; exact h.2.2⟩
def toB (z : Int) : UInt8 := UInt8.ofNat z.toNat
theorem bcell_toB {z : Int} (h0 : 0 ≤ z) (h1 : z < 256) : Value.int .u8 z = bcell (toB z) := bcell_of (by omega) (by omega)
theorem u8_rng (z : Int) : 0 ≤ IntKind.u8.wrap z ∧ IntKind.u8.wrap z < 256 := by
  have h1 := Int.emod_nonneg z (show (256 : Int) ≠ 0 by decide)
  have h2 := Int.emod_lt_of_pos z (show (0 : Int) < 256 by decide)
  have h : IntKind.u8.wrap z = z % 256 := by simp [IntKind.wrap, IntKind.signed, IntKind.bits]
  rw [h]; exact ⟨h1, h2⟩
section rd
variable {P : Program} {ty : TypeId} {E : Env} {L : Mem} {x : Operand} {v : Value} {T : TypeId}
theorem RD.mkIface {d0 : TypeDesc} (hu : P.underlying T = some d0) (hd : ∀ m, d0 ≠ .interface m) (hx : evalE E x = some v) : RD P (.makeInterface T x) ty E L (.iface T v) := fun ρ w _ _ _ _ hρ _ => by
  simp only [execOp, hρ _ _ hx, Instr.makeInterface, Sem.run_bind, run_underlying hu, Result.andThen_ok]
  cases d0 with
  | interface m => exact absurd rfl (hd m)
  | _ => rfl
theorem RD.str_of_rune {U : TypeId} {k : IntKind} {n : Int} {dS : TypeDesc} (hS : ∀ w, (underlying T).run P w = .ok dS w) (hU : ∀ w, (underlying U).run P w = .ok .string w) (hx : evalE E x = some (.int k n)) :
    RD P (.convert T U x) ty E L (.string (Utf8.encode n)) := fun ρ w _ _ _ _ hρ _ => by
  simp [execOp, hρ _ _ hx, convert, hS, hU, Conv.intToString]
end rd
theorem lt_data {s : ByteArray} {i : Nat} (h : i < s.size) : i < s.data.toList.length := by simpa using h
theorem get!_data {s : ByteArray} {i : Nat} (h : i < s.size) : s.get! i = gt s.data.toList i := by
  have h' : i < s.data.toList.length := lt_data h
  have e1 : s.get! i = s.data[i]! := rfl
  have h2 : i < s.data.size := h
  rw [e1, getElem!_pos s.data i h2]
  have := gt_some h'
  rw [List.getElem?_eq_getElem h'] at this
  simpa using (Option.some.inj this)
def sepB (c : UInt8) : Bool := c == 47 || c == 0
def hasSep (s : ByteArray) : Bool := s.data.toList.any sepB
theorem decode_step {s : ByteArray} {pos : Nat} (h : pos < s.size) : 1 ≤ (Utf8.decode s pos).2 ∧ pos + (Utf8.decode s pos).2 ≤ s.size := by
  simp only [Utf8.decode]
  repeat' split
  all_goals first | (simp_all; omega) | (simp only [Bool.and_eq_true, decide_eq_true_eq] at *; omega)
theorem decode_span {s : ByteArray} {pos : Nat} (h : pos < s.size) (ha : ¬ (s.get! pos).toNat < 128) : 128 ≤ (Utf8.decode s pos).1 ∧ ∀ j, pos ≤ j → j < pos + (Utf8.decode s pos).2 → 128 ≤ (s.get! j).toNat := by
  have e0 : s.get! (pos + 0) = s.get! pos := rfl
  simp only [Utf8.decode, e0, ha, if_false]
  have one : ∀ j, pos ≤ j → j < pos + 1 → 128 ≤ (s.get! j).toNat := fun j h1 h2 => by
    obtain rfl : j = pos := by omega
    omega
  have co : ∀ k, ((s.get! (pos + k)).toNat / 64 == 2) = true → 128 ≤ (s.get! (pos + k)).toNat := fun k hk => by
    have := eq_of_beq hk; omega
  split
  · rename_i h1
    simp only [Bool.and_eq_true] at h1
    have c1 := co 1 h1.2.2
    split
    · exact ⟨by assumption, fun j h2 h3 => by
        have : j = pos ∨ j = pos + 1 := by simp only at h3; omega
        rcases this with rfl | rfl
        · omega
        · exact c1⟩
    · exact ⟨by decide, one⟩
  · split
    · rename_i h1
      simp only [Bool.and_eq_true] at h1
      have c1 := co 1 h1.1.2.2
      have c2 := co 2 h1.2.2
      split
      · rename_i h4
        simp only [Bool.and_eq_true, decide_eq_true_eq, ge_iff_le] at h4
        exact ⟨by simp only; omega, fun j h2 h3 => by
          have : j = pos ∨ j = pos + 1 ∨ j = pos + 2 := by simp only at h3; omega
          rcases this with rfl | rfl | rfl
          · omega
          · exact c1
          · exact c2⟩
      · exact ⟨by decide, one⟩
    · split
      · rename_i h1
        simp only [Bool.and_eq_true] at h1
        have c1 := co 1 h1.1.1.2.2
        have c2 := co 2 h1.1.2.2
        have c3 := co 3 h1.2.2
        split
        · rename_i h4
          simp only [Bool.and_eq_true, decide_eq_true_eq, ge_iff_le] at h4
          exact ⟨by simp only; omega, fun j h2 h3 => by
            have : j = pos ∨ j = pos + 1 ∨ j = pos + 2 ∨ j = pos + 3 := by simp only at h3; omega
            rcases this with rfl | rfl | rfl | rfl
            · omega
            · exact c1
            · exact c2
            · exact c3⟩
        · exact ⟨by decide, one⟩
      · exact ⟨by decide, one⟩
theorem sepB_big {c : UInt8} (h : 128 ≤ c.toNat) : sepB c = false := by
  have h1 : c ≠ 47 := fun e => by subst e; revert h; decide
  have h2 : c ≠ 0 := fun e => by subst e; revert h; decide
  simp [sepB, h1, h2]
theorem sepB_iff {c : UInt8} : sepB c = true ↔ (c.toNat : Int) = 47 ∨ (c.toNat : Int) = 0 := by
  have h1 : (c = 47) ↔ (c.toNat : Int) = 47 := by rw [UInt8.toNat_inj.symm]; show c.toNat = 47 ↔ _; omega
  have h2 : (c = 0) ↔ (c.toNat : Int) = 0 := by rw [UInt8.toNat_inj.symm]; show c.toNat = 0 ↔ _; omega
  rw [← h1, ← h2]
  simp [sepB]
theorem sepB_nat {c : UInt8} : sepB c = decide ((c.toNat : Int) = 47 ∨ (c.toNat : Int) = 0) := by
  rw [Bool.eq_iff_iff, sepB_iff]; simp
/-- No separator among the first. -/
def NoSep (s : ByteArray) (pos : Nat) : Prop := ∀ j, j < pos → sepB (s.get! j) = false
theorem NoSep.step {s : ByteArray} {pos : Nat} {z : Int} (h : NoSep s pos) (hp : pos < s.size) (hz : decide (0 ≤ z) = decide (((Utf8.decode s pos).1 : Int) = 47 ∨ ((Utf8.decode s pos).1 : Int) = 0)) (hn : ¬ 0 ≤ z) : NoSep s (pos + (Utf8.decode s pos).2) := fun j hj => by
  rcases Nat.lt_or_ge j pos with h1 | h1
  · exact h j h1
  by_cases ha : (s.get! pos).toNat < 128
  · have hd : Utf8.decode s pos = ((s.get! pos).toNat, 1) := by
      have e0 : s.get! (pos + 0) = s.get! pos := rfl
      simp only [Utf8.decode, e0, ha, if_true]
    rw [hd] at hj hz
    simp only at hj
    obtain rfl : j = pos := by omega
    rw [sepB_nat, ← hz]
    simpa using hn
  · exact sepB_big ((decode_span hp ha).2 j h1 hj)
theorem NoSep.none {s : ByteArray} {pos : Nat} (h : NoSep s pos) (hp : s.size ≤ pos) : hasSep s = false := by
  unfold hasSep
  refine List.any_eq_false.2 fun c hc => ?_
  obtain ⟨i, hi, rfl⟩ := List.getElem_of_mem hc
  have hi' : i < s.size := by simpa using hi
  have := h i (by omega)
  rw [get!_data hi'] at this
  have e := gt_some (l := s.data.toList) hi
  rw [List.getElem?_eq_getElem hi] at e
  rw [Option.some.inj e, this]; simp
theorem NoSep.hit {s : ByteArray} {pos : Nat} {z : Int} (hp : pos < s.size) (hz : decide (0 ≤ z) = decide (((Utf8.decode s pos).1 : Int) = 47 ∨ ((Utf8.decode s pos).1 : Int) = 0)) (hn : 0 ≤ z) : hasSep s = true := by
  have hr := of_decide_eq_true (hz.symm.trans (decide_eq_true hn))
  by_cases ha : (s.get! pos).toNat < 128
  · have hd : Utf8.decode s pos = ((s.get! pos).toNat, 1) := by
      have e0 : s.get! (pos + 0) = s.get! pos := rfl
      simp only [Utf8.decode, e0, ha, if_true]
    rw [hd] at hr
    have hs : sepB (s.get! pos) = true := by rw [sepB_nat]; exact decide_eq_true hr
    unfold hasSep
    rw [get!_data hp] at hs
    exact List.any_eq_true.2 ⟨_, gt_mem (lt_data hp), hs⟩
  · have := (decode_span hp ha).1
    omega
theorem enc_big {r : Int} (h : 128 ≤ r) : 2 ≤ (Utf8.encode r).size ∧ (Utf8.encode r).size ≤ 4 ∧ ((Utf8.encode r).size = 2 → 128 ≤ (gt (Utf8.encode r).data.toList 1).toNat) := by
  have hc : 128 ≤ (if Utf8.valid r then r.toNat else Utf8.runeError) := by
    split
    · omega
    · decide
  simp only [Utf8.encode]
  generalize (if Utf8.valid r then r.toNat else Utf8.runeError) = c at hc
  rw [if_neg (by omega)]
  split
  · refine ⟨Nat.le_refl _, Nat.le_of_ble_eq_true rfl, fun _ => ?_⟩
    show 128 ≤ (UInt8.ofNat (128 + c % 64)).toNat
    rw [UInt8.toNat_ofNat_of_lt' (by show 128 + c % 64 < 256; omega)]
    omega
  · split
    · exact ⟨Nat.le_of_ble_eq_true rfl, Nat.le_of_ble_eq_true rfl, fun h => absurd (show (3 : Nat) = 2 from h) (by decide)⟩
    · exact ⟨Nat.le_of_ble_eq_true rfl, Nat.le_of_ble_eq_true rfl, fun h => absurd (show (4 : Nat) = 2 from h) (by decide)⟩
theorem indexAny_sep (s : ByteArray) : decide (0 ≤ Lib.indexAny s.data.toList [47, 0]) = hasSep s := by
  unfold hasSep
  induction s.data.toList with
  | nil => rfl
  | cons b l ih =>
    have hge := Lib.indexAny_ge [47, 0] l
    have e : ([47, 0] : List UInt8).contains b = sepB b := by rw [Bool.eq_iff_iff]; simp [sepB]
    rw [Lib.indexAny, e, List.any_cons]
    cases sepB b with
    | true => rfl
    | false =>
      rw [Bool.false_or, ← ih]
      simp only [Bool.false_eq_true, if_false]
      split
      · rename_i h; rw [eq_of_beq h]
      · rename_i h
        have h' : Lib.indexAny l [47, 0] ≠ -1 := by simpa using h
        exact decide_eq_decide.2 (by omega)
theorem Ret.new2 {P : Program} {f : FuncId} {args : Array Value} {w : World} {v : Value} {o1 o2 : Obj} (h : Calls P f args w fun e w' => e = .returned v ∧ w' = (w.alloc o1).alloc o2) : Calls P f args w (Ret w [] fun x H1 => x = v ∧ H1 = []) :=
  h.mono (by rintro e w' ⟨rfl, rfl⟩; exact ⟨v, [], rfl, ⟨rfl, rfl⟩, ((Fr.refl w []).alloc o1).alloc o2, Hp.nil _, by simp⟩)
end Go.Mv

namespace Go.Mv
open Go Go.Proofs
/-- Eight words. -/
structure S8 where
  a : UInt32
  b : UInt32
  c : UInt32
  d : UInt32
  e : UInt32
  f : UInt32
  g : UInt32
  h : UInt32
instance : Inhabited S8 := ⟨⟨0, 0, 0, 0, 0, 0, 0, 0⟩⟩
def S8.l (s : S8) : List UInt32 := [s.a, s.b, s.c, s.d, s.e, s.f, s.g, s.h]
end Go.Mv

namespace Go.Mv
open Go Go.Proofs
def upd {α : Type} (f : Nat → α) (k : Nat) (y : α) : Nat → α := fun i => if i = k then y else f i
section rd
variable {P : Program} {ty : TypeId} {E : Env} {L : Mem} {v u : Value} {x y z : Operand} {T U : TypeId} {a b : UInt32}
end rd
section te
variable {P : Program} {rd : Option Nat} {ops : Array Oper} {p : Pst} {q : List Nat} {C : Ctx} {E : Env} {M L : Mem} {k : Nat} {tr : Tr} {ty : TypeId} {ps : String} {af : Array Edge} {g : Option (Nat × Bool)} {d : Nat}
/-- Bytes that are turned into bytes: the same, marked. -/
theorem TE_convSl {src dst' e1 el : TypeId} {x : Operand} {b len cap : Nat} {cs : Array Value} {t : TypeId} (i : Nat) (M' : Mem) (ho : ops[k]? = some ⟨some d, .convert src dst' x, ty, ps, af, g⟩) (hl : ld ops q k = true) (hg : GOK ops E g) (hd : Nat.blt d C.N = true)
    (hS : P.underlying src = some (.slice e1)) (hD : P.underlying dst' = some (.slice el)) (hsd : (src == dst') = true) (he : P.underlying el = some (.int .u8)) (hx : evalE E x = some (.slice (some ⟨b, 0, none⟩) len cap)) (hi : M[i]? = some (b, .cells cs t (0, 0))) (hw : C.w0.heap.size ≤ b ∨ b ∈ C.X)
    (hM : M.set i (b, .cells cs t (cs.size, cs.size + 1)) = M') (h : TE P rd ops p q C L tr ((d, .slice (some ⟨b, 0, none⟩) len cap) :: E) M') : TE P rd ops p q C L (.op k tr) E M := by
  subst hM
  refine TE_loud ho hl hg rfl fun a w hr hs => ?_
  have hb := hs.hp.get (i := i) (b := b) (o := .cells cs t (0, 0)) (by
    obtain ⟨hlt, _⟩ := List.getElem?_eq_some_iff.1 hi
    rw [List.getElem?_append_left hlt]; exact hi)
  have hlt : b < w.heap.size := (Array.getElem?_eq_some_iff.1 hb).1
  have hsame : (w.freeze ⟨b, cs.size, none⟩ 1).heap[b]? = some (.cells cs t (cs.size, cs.size + 1)) := by
    simp [World.freeze, Array.getElem?_modify, hb]
  have hoth : ∀ k, k ≠ b → (w.freeze ⟨b, cs.size, none⟩ 1).heap[k]? = w.heap[k]? := fun k hk => by
    simp [World.freeze, Array.getElem?_modify, Ne.symm hk]
  have hst := hs.upd hi (w' := w.freeze ⟨b, cs.size, none⟩ 1) (o' := .cells cs t (cs.size, cs.size + 1)) hsame hoth rfl rfl rfl (by simp [World.freeze]) rfl hw
  have hrun : (execOp a.eval ⟨some d, .convert src dst' x, ty, ps, af, g⟩).run P w = .ok (.value (.slice (some ⟨b, 0, none⟩) len cap)) (w.freeze ⟨b, cs.size, none⟩ 1) := by
    simp [execOp, hr.eval hx, convert, run_underlying hS, run_underlying hD, run_underlying he, hsd, markStringish, World.shape?, hb]
  rw [hrun]
  exact ⟨hst.hp.right, h _ _ (hr.put (by simpa using hd) _) hst⟩
end te
section done
variable {P : Program} {fn : Func} {E : Env} {H : Mem} {post : Value → Mem → Prop} {X : List Nat}
end done
end Go.Mv

namespace Go.Proofs.Ytloljpefdecmhaa
open Go Go.Mv
def dotOk (s c : Int) : Bool := decide (0 ≤ s ∧ s < 16 ∧ 1 ≤ c ∧ c ≤ 4294967295)
theorem dotOk_iff {s c : Int} : dotOk s c = true ↔ 0 ≤ s ∧ s < 16 ∧ 1 ≤ c ∧ c ≤ 4294967295 := by simp [dotOk]
end Go.Proofs.Ytloljpefdecmhaa

namespace Go.Proofs.Ytloljpefdecmhaa
open Go Go.Mv
theorem c_lebParts (n : Int) (w : World) : Calls Try.prog 72 #[.int .u64 n] w (Ret w [] fun v H1 => ∃ b, v = .func (.func 73) #[] #[.pointer (some ⟨b, 0, none⟩)] ∧ H1 = [(b, .cells #[.int .u64 n] 83 (0, 0))]) := by
  refine fn_enter (args := [_]) Try.func72 rfl Try.ntmps72 rfl (Hp.nil w) ?_
  refine pn_seq ?_
  refine pn_plain [] rfl ?_
  refine TE_box rfl rfl trivial rfl fun b1 hb1 => ?_
  refine TE_q rfl rfl (RD.assign rfl) rfl ?_
  refine TE_nil0 ?_
  refine pn_seq ?_
  refine pn_plain [] rfl ?_
  refine TE_q rfl rfl (RD.makeFunc rfl rfl) rfl ?_
  refine TE_q rfl rfl (RD.assign rfl) rfl ?_
  refine TE_nil0 ?_
  refine pn_ret ?_
  exact pn_done rfl rfl ⟨b1, rfl, rfl⟩ (List.Sublist.refl _) (by simp; exact hb1)

theorem it_lebParts (n b : Nat) (hn : n < 18446744073709551616) : Iter Try.prog 73 [.pointer (some ⟨b, 0, none⟩)] (fun x => [bcell x]) [(b, .cells #[.int .u64 (n : Int)] 83 (0, 0))] (lebL n) (fun _ HI' => HI' = []) := by
  intro σ l HJ G S w s0 h0 hHp hy
  refine fn_enter (args := [_, _]) Try.func73 rfl Try.ntmps73 rfl hHp ?_
  refine pn_seq ?_
  refine pn_block ?_
  refine pn_loop (σ := List UInt8 × Nat × σ) (fun _ => [(0, .func (.yield l) #[] #[]), (1, .pointer (some ⟨b, 0, none⟩))]) (fun st => (b, .cells #[.int .u64 (st.2.1 : Int)] 83 (0, 0)) :: HJ st.2.2) (fun st => lebL n = st.1 ++ lebL st.2.1 ∧ G st.1 st.2.2 ∧ (∀ e ∈ HJ st.2.2, w.heap.size ≤ e.1 ∨ e.1 ∈ keys ([(b, .cells #[.int .u64 (n : Int)] 83 (0, 0))] ++ HJ s0)) ∧ st.2.1 < 18446744073709551616) (fun st => st.2.1) ([], n, s0) ⟨rfl, h0, fun e he => .inr (mem_keys.2 ⟨e, by simp [he], rfl⟩), hn⟩ ⟨rfl, rfl, trivial⟩ (List.Sublist.refl _) ?_
  rintro ⟨pre, m, s⟩ ⟨hpre, hG, hX, hm⟩; dsimp only at hpre hG hX hm ⊢
  refine pn_seq ?_
  refine pn_seq ?_
  refine pn_plain [] rfl ?_
  refine TE_l rfl rfl trivial rfl (RD.load (i := 0) Try.isAgg83 rfl rfl rfl) rfl ?_
  refine TE_q rfl rfl (RD.geq rfl rfl) rfl ?_
  refine TE_nil0 ?_
  first | refine pn_condD rfl (fun hc0 => ?_) (fun hc0 => ?_) | refine pn_condN rfl (fun hc0 => ?_) (fun hc0 => ?_) | refine pn_cond rfl (fun hc0 => ?_) (fun hc0 => ?_)
  · refine pn_skip ?_
    refine pn_block ?_
    refine pn_seq ?_
    refine pn_seq ?_
    refine pn_plain [3] rfl ?_
    refine TE_q rfl rfl (RD.move rfl) rfl ?_
    refine TE_l rfl rfl trivial rfl (RD.load (i := 0) Try.isAgg83 rfl rfl rfl) rfl ?_
    refine TE_q rfl rfl (RD.rem rfl rfl (by decide)) rfl ?_
    refine TE_q rfl rfl (RD.conv Try.runUnderlying83 Try.runUnderlying5 rfl) rfl ?_
    refine TE_q rfl rfl (RD.as (RD.add rfl rfl) (leb_more m)) rfl ?_
    refine TE_yield 1 rfl rfl trivial rfl rfl rfl rfl rfl hX (fun W hW => hy pre (UInt8.ofNat (m % 128 + 128)) s W hG ⟨lebL (m / 128), by rw [hpre, lebL_big (n := m) (by omega), List.append_assoc]; rfl⟩ hW.fr (hW.hp.sub (by simp))) ?_
    rintro v10 H5 ⟨s', rfl, ⟨rfl, hG'⟩ | ⟨rfl, hS'⟩⟩ hX'
    all_goals refine TE_q rfl rfl (RD.not rfl) rfl ?_
    all_goals refine TE_nil0 ?_
    all_goals first
      | (
          refine pn_condT rfl ?_
          refine pn_ret ?_
          exact pn_done rfl rfl ⟨s', [], rfl, .inr ⟨pre ++ [UInt8.ofNat (m % 128 + 128)], ⟨lebL (m / 128), by rw [hpre, lebL_big (n := m) (by omega), List.append_assoc]; rfl⟩, hS', rfl⟩⟩ (List.sublist_cons_self _ _) (fun e he => (hX' e he).symm))
      | (
          refine pn_condF rfl ?_
          refine pn_skip ?_
          refine pn_plain [] rfl ?_
          refine TE_l rfl rfl trivial rfl (RD.load (i := 0) Try.isAgg83 rfl rfl rfl) rfl ?_
          refine TE_q rfl rfl (RD.as (RD.shr rfl rfl (by decide)) (leb_shr m)) rfl ?_
          refine TE_store (i := 0) rfl Try.sizeOf83 trivial rfl rfl rfl rfl rfl rfl (.inr (by simp)) ?_
          refine TE_nil0 ?_
          (exact pn_again (pre ++ [UInt8.ofNat (m % 128 + 128)], m / 128, s') ⟨by rw [hpre, lebL_big (n := m) (by omega), List.append_assoc]; rfl, hG', hX', by show m / 128 < 18446744073709551616; omega⟩ (by show m / 128 < m; omega) ⟨rfl, rfl, trivial⟩ (List.Sublist.refl _)))
      | (
          first | refine pn_condD rfl (fun hc1 => ?_) (fun hc1 => ?_) | refine pn_condN rfl (fun hc1 => ?_) (fun hc1 => ?_) | refine pn_cond rfl (fun hc1 => ?_) (fun hc1 => ?_)
          · refine pn_ret ?_
            exact pn_done rfl rfl ⟨s', [], rfl, .inr ⟨pre ++ [UInt8.ofNat (m % 128 + 128)], ⟨lebL (m / 128), by rw [hpre, lebL_big (n := m) (by omega), List.append_assoc]; rfl⟩, hS', rfl⟩⟩ (List.sublist_cons_self _ _) (fun e he => (hX' e he).symm)
          · refine pn_skip ?_
            refine pn_plain [] rfl ?_
            refine TE_l rfl rfl trivial rfl (RD.load (i := 0) Try.isAgg83 rfl rfl rfl) rfl ?_
            refine TE_q rfl rfl (RD.as (RD.shr rfl rfl (by decide)) (leb_shr m)) rfl ?_
            refine TE_store (i := 0) rfl Try.sizeOf83 trivial rfl rfl rfl rfl rfl rfl (.inr (by simp)) ?_
            refine TE_nil0 ?_
            (exact pn_again (pre ++ [UInt8.ofNat (m % 128 + 128)], m / 128, s') ⟨by rw [hpre, lebL_big (n := m) (by omega), List.append_assoc]; rfl, hG', hX', by show m / 128 < 18446744073709551616; omega⟩ (by show m / 128 < m; omega) ⟨rfl, rfl, trivial⟩ (List.Sublist.refl _)))
  · refine pn_exit ?_
    refine pn_plain [2] rfl ?_
    refine TE_q rfl rfl (RD.move rfl) rfl ?_
    refine TE_l rfl rfl trivial rfl (RD.load (i := 0) Try.isAgg83 rfl rfl rfl) rfl ?_
    refine TE_q rfl rfl (RD.as (RD.conv Try.runUnderlying83 Try.runUnderlying5 rfl) (leb_last (by omega))) rfl ?_
    refine TE_yield 1 rfl rfl trivial rfl rfl rfl rfl rfl hX (fun W hW => hy pre (UInt8.ofNat m) s W hG (by rw [hpre, lebL_small (n := m) (by omega)]; exact List.prefix_refl _) hW.fr (hW.hp.sub (by simp))) ?_
    rintro v17 H3 ⟨s', rfl, hcase⟩ hX'
    refine TE_nil0 ?_
    (rw [lebL_small (n := m) (by omega)] at hpre; rcases hcase with ⟨_, hG'⟩ | ⟨_, hS'⟩ <;> first | exact pn_done rfl rfl ⟨s', [], rfl, .inl ⟨hpre ▸ hG', rfl⟩⟩ (List.sublist_cons_self _ _) (fun e he => (hX' e he).symm) | exact pn_done rfl rfl ⟨s', [], rfl, .inr ⟨_, hpre ▸ List.prefix_refl _, hS', rfl⟩⟩ (List.sublist_cons_self _ _) (fun e he => (hX' e he).symm))

end Go.Proofs.Ytloljpefdecmhaa

namespace Go.Proofs.Ytloljpefdecmhaa
open Go Go.Mv
set_option maxRecDepth 4000
theorem elByte : ElI Try.prog 5 1 1 (.int .u8 0) := by unfold ElI; kernel_rfl

theorem c_sinkNumber (s n : Nat) (l : List UInt8) (st : SnkS) (w : World) (hn : n < 18446744073709551616) (hok : SnkOk l st) (hl : l.length ≤ 1099511627776) (hw : Hp (snkM 68 5 s l st) w) : Calls Try.prog 71 #[(.pointer (some ⟨s, 0, none⟩)), .int .u64 (n : Int)] w (Ret w (keys (snkM 68 5 s l st)) fun v H1 => ∃ st', v = (.pointer (some ⟨s, 0, none⟩)) ∧ H1 = snkM 68 5 s (l ++ lebL n) (some st') ∧ SnkOk (l ++ lebL n) (some st')) := by
  refine fn_enter (args := [_, _]) Try.func71 rfl Try.ntmps71 rfl hw ?_
  refine pn_seq ?_
  refine pn_plain [] rfl ?_
  refine TE_box rfl rfl trivial rfl fun b2 hb2 => ?_
  refine TE_q rfl rfl (RD.assign rfl) rfl ?_
  refine TE_nil0 ?_
  refine pn_seq ?_
  refine pn_seq ?_
  refine pn_plain [] rfl ?_
  refine TE_l rfl rfl trivial rfl (RD.load (i := 0) Try.isAgg69 rfl rfl rfl) rfl ?_
  refine TE_q rfl rfl (RD.ptr_neq_nil Try.runUnderlying69 rfl rfl) rfl ?_
  refine TE_nil0 ?_
  refine pn_condT rfl ?_
  refine pn_seq ?_
  refine pn_plain [] rfl ?_
  refine TE_q rfl rfl (RD.move rfl) rfl ?_
  refine TE_call rfl rfl trivial Try.call72 rfl rfl rfl (fun w hs' => c_lebParts _ w) ?_
  rintro v9 H1 ⟨bp, rfl, rfl⟩ hbp
  refine TE_nil0 ?_
  refine pn_block ?_
  refine pn_rangeH (τ := Unit) (HI := [(bp, .cells #[.int .u64 (n : Int)] 83 (0, 0))]) (HR := [(b2, .cells #[(.pointer (some ⟨s, 0, none⟩))] 69 (0, 0))]) (it_lebParts n bp hn) (fun (x : List UInt8 × SnkS) => snkM 68 5 s x.1 x.2) (fun pre x => x.1 = l ++ pre ∧ SnkOk x.1 x.2 ∧ (pre ≠ [] → x.2.isSome) ∧ ∀ e ∈ snkM 68 5 s x.1 x.2, e.1 ∈ keys (snkM 68 5 s l st) ∨ w.heap.size ≤ e.1) (fun _ _ _ => False) (l, st) ⟨by simp, hok, by simp, fun e he => .inl (mem_keys.2 ⟨e, he, rfl⟩)⟩ rfl Try.call73 (by intro x; rfl) rfl (fun w h => h.perm (List.Perm.cons _ (List.perm_append_comm (l₁ := [_])))) (fun e he => (List.mem_cons.1 he).elim (fun h => .inl (hbp e (by simp [h]))) (fun h => .inr (mem_keys.2 ⟨e, h, rfl⟩))) (fun x _ => [(5, bcell x), (2, .pointer (some ⟨b2, 0, none⟩))]) (fun _ _ => []) (fun _ _ => True) ?_ ?_ ?_ ?_
  · intro W l1 pre x y R hW hG hpre
    refine pn_plain [] rfl ?_
    refine TE_q rfl rfl (RD.assign rfl) rfl ?_
    refine TE_nil0 ?_
    (exact fun a w hr hs => ⟨(), trivial, hr.keeps ⟨rfl, rfl, trivial⟩, hs⟩)
  · rintro W l1 pre x ⟨l', st'⟩ t R hW ⟨hl', hok', hsm, hwh⟩ hpre -
    dsimp only at hl' hok' hsm hwh
    have h10 := lebL_len64 hn
    have hlp := length_of_prefix hpre
    have hll : l'.length ≤ l.length + 10 := by rw [hl', List.length_append]; omega
    refine pn_block ?_
    rcases st' with _ | ⟨b, cap, tl⟩
    · obtain rfl : l' = [] := hok'
      refine pn_drawM [0, 1] [0] [1] (seqT [0, 1, 2, 3, 5] (.fork (seqT [4, 6, 7, 8, 9, 10] .nil) (seqT [6, 4, 7, 8, 9, 10] .nil))) [_, _] R rfl rfl (by kernel_rfl) (by kernel_rfl) rfl rfl ?_
      refine TE_q rfl rfl (RD.load (i := 0) Try.isAgg69 rfl rfl rfl) rfl ?_
      refine TE_q rfl rfl (RD.load (i := 0) Try.isAgg69 rfl rfl rfl) rfl ?_
      refine TE_q rfl rfl (RD.nilCheckP rfl) rfl ?_
      refine TE_q rfl rfl (RD.fieldAddr (o := 0) Try.runUnderlying68 rfl rfl Try.sizeOf22 rfl) rfl ?_
      refine TE_q rfl rfl (RD.move rfl) rfl ?_
      refine TE_fork ?_ ?_
      · refine TE_l rfl rfl trivial rfl (RD.load (i := 0) Try.isAgg22 rfl rfl rfl) rfl ?_
        refine TE_buildSlice (cells := #[bcell x]) rfl Try.runUnderlying22 Try.sizeOf5 Try.zeroValue5 rfl rfl rfl (by kernel_rfl) trivial rfl fun bv hbv => ?_
        refine TE_appendN (ys := [bcell x]) rfl rfl trivial rfl Try.underlying22 elByte rfl rfl rfl rfl (Src.blk (i := 0) (ys := [bcell x]) (tl := []) rfl) rfl (by simp [bcell, Value.oneCell']) (by decide) (by decide) (by decide) ?_
        intro b' cap' tl' h1 h2 h3 h4
        refine TE_q rfl rfl (RD.nilCheckP rfl) rfl ?_
        refine TE_q rfl rfl (RD.fieldAddr (o := 0) Try.runUnderlying68 rfl rfl Try.sizeOf22 rfl) rfl ?_
        refine TE_store (i := 2) rfl Try.sizeOf22 trivial rfl rfl rfl rfl rfl rfl (.inr (by simp [snkM])) ?_
        refine TE_nil ?_
        refine pn_endR (σ := List UInt8 × SnkS) (HJ := fun x => snkM 68 5 s x.1 x.2) (s := ([], none)) (l := l1) (R := R) ([] ++ [x], some (b', cap', tl')) rfl ⟨by show _ = l ++ (pre ++ [x]); rw [← List.append_assoc, ← hl'], SnkOk_app (l := []) h1 h2 h3, by simp, snk_all (fun k => k ∈ keys (snkM 68 5 s l st) ∨ w.heap.size ≤ k) (snk_s (fun k => k ∈ keys (snkM 68 5 s l st) ∨ w.heap.size ≤ k) hwh) (.inr (Nat.le_trans hW.size h4))⟩ (fun w h => ?_) (snk_all (fun k => k ∈ keys (snkM 68 5 s [] none) ∨ W.heap.size ≤ k) (snk_s (fun k => k ∈ keys (snkM 68 5 s [] none) ∨ W.heap.size ≤ k) in_keys) (.inr h4))
        exact (h.sub (H' := _ :: _ :: R) (List.Sublist.cons_cons _ (List.Sublist.cons _ (List.Sublist.cons_cons _ (List.sublist_cons_self _ _))))).perm (.swap _ _ _)
      · refine TE_buildSlice (cells := #[bcell x]) rfl Try.runUnderlying22 Try.sizeOf5 Try.zeroValue5 rfl rfl rfl (by kernel_rfl) trivial rfl fun bv hbv => ?_
        refine TE_l rfl rfl trivial rfl (RD.load (i := 1) Try.isAgg22 rfl rfl rfl) rfl ?_
        refine TE_appendN (ys := [bcell x]) rfl rfl trivial rfl Try.underlying22 elByte rfl rfl rfl rfl (Src.blk (i := 0) (ys := [bcell x]) (tl := []) rfl) rfl (by simp [bcell, Value.oneCell']) (by decide) (by decide) (by decide) ?_
        intro b' cap' tl' h1 h2 h3 h4
        refine TE_q rfl rfl (RD.nilCheckP rfl) rfl ?_
        refine TE_q rfl rfl (RD.fieldAddr (o := 0) Try.runUnderlying68 rfl rfl Try.sizeOf22 rfl) rfl ?_
        refine TE_store (i := 2) rfl Try.sizeOf22 trivial rfl rfl rfl rfl rfl rfl (.inr (by simp [snkM])) ?_
        refine TE_nil ?_
        refine pn_endR (σ := List UInt8 × SnkS) (HJ := fun x => snkM 68 5 s x.1 x.2) (s := ([], none)) (l := l1) (R := R) ([] ++ [x], some (b', cap', tl')) rfl ⟨by show _ = l ++ (pre ++ [x]); rw [← List.append_assoc, ← hl'], SnkOk_app (l := []) h1 h2 h3, by simp, snk_all (fun k => k ∈ keys (snkM 68 5 s l st) ∨ w.heap.size ≤ k) (snk_s (fun k => k ∈ keys (snkM 68 5 s l st) ∨ w.heap.size ≤ k) hwh) (.inr (Nat.le_trans hW.size h4))⟩ (fun w h => ?_) (snk_all (fun k => k ∈ keys (snkM 68 5 s [] none) ∨ W.heap.size ≤ k) (snk_s (fun k => k ∈ keys (snkM 68 5 s [] none) ∨ W.heap.size ≤ k) in_keys) (.inr h4))
        exact (h.sub (H' := _ :: _ :: R) (List.Sublist.cons_cons _ (List.Sublist.cons _ (List.Sublist.cons_cons _ (List.sublist_cons_self _ _))))).perm (.swap _ _ _)
    · refine pn_drawM [0, 1] [0, 1] [2] (seqT [0, 1, 2, 3, 5] (.fork (seqT [4, 6, 7, 8, 9, 10] .nil) (seqT [6, 4, 7, 8, 9, 10] .nil))) [_, _, _] R rfl rfl (by kernel_rfl) (by kernel_rfl) rfl rfl ?_
      refine TE_q rfl rfl (RD.load (i := 0) Try.isAgg69 rfl rfl rfl) rfl ?_
      refine TE_q rfl rfl (RD.load (i := 0) Try.isAgg69 rfl rfl rfl) rfl ?_
      refine TE_q rfl rfl (RD.nilCheckP rfl) rfl ?_
      refine TE_q rfl rfl (RD.fieldAddr (o := 0) Try.runUnderlying68 rfl rfl Try.sizeOf22 rfl) rfl ?_
      refine TE_q rfl rfl (RD.move rfl) rfl ?_
      refine TE_fork ?_ ?_
      · refine TE_l rfl rfl trivial rfl (RD.load (i := 0) Try.isAgg22 rfl rfl rfl) rfl ?_
        refine TE_buildSlice (cells := #[bcell x]) rfl Try.runUnderlying22 Try.sizeOf5 Try.zeroValue5 rfl rfl rfl (by kernel_rfl) trivial rfl fun bv hbv => ?_
        refine TE_appendS (i := 2) (n := l'.length) (xs := bcells l') (tl := tl) (ys := [bcell x]) rfl rfl trivial rfl Try.underlying22 elByte rfl rfl rfl rfl rfl (by simp) hok'.2.2 hok'.1 hok'.2.1 (Src.blk (i := 0) (ys := [bcell x]) (tl := []) rfl) rfl (by simp [bcell, Value.oneCell']) (by decide) (maxLen_ge (by omega)) (by omega) (.inr (by simp [snkM])) ?_
        intro b' cap' tl' h1 h2 h3 h4
        refine TE_q rfl rfl (RD.nilCheckP rfl) rfl ?_
        refine TE_q rfl rfl (RD.fieldAddr (o := 0) Try.runUnderlying68 rfl rfl Try.sizeOf22 rfl) rfl ?_
        refine TE_store (i := 1) rfl Try.sizeOf22 trivial rfl rfl rfl rfl rfl rfl (.inr (by simp [snkM])) ?_
        refine TE_nil ?_
        refine pn_endR (σ := List UInt8 × SnkS) (HJ := fun x => snkM 68 5 s x.1 x.2) (s := (l', some (b, cap, tl))) (l := l1) (R := R) (l' ++ [x], some (b', cap', tl')) rfl ⟨by show _ = l ++ (pre ++ [x]); rw [← List.append_assoc, ← hl'], SnkOk_app h1 h2 h3, by simp, snk_all (fun k => k ∈ keys (snkM 68 5 s l st) ∨ w.heap.size ≤ k) (snk_s (fun k => k ∈ keys (snkM 68 5 s l st) ∨ w.heap.size ≤ k) hwh) (h4.elim (fun h => h ▸ snk_b (fun k => k ∈ keys (snkM 68 5 s l st) ∨ w.heap.size ≤ k) hwh) (fun h => .inr (Nat.le_trans hW.size h)))⟩ (fun w h => ?_) (snk_all (fun k => k ∈ keys (snkM 68 5 s l' (some (b, cap, tl))) ∨ W.heap.size ≤ k) (snk_s (fun k => k ∈ keys (snkM 68 5 s l' (some (b, cap, tl))) ∨ W.heap.size ≤ k) in_keys) (h4.elim (fun h => h ▸ snk_b (fun k => k ∈ keys (snkM 68 5 s l' (some (b, cap, tl))) ∨ W.heap.size ≤ k) in_keys) .inr))
        show Hp (snkM 68 5 s (l' ++ [x]) (some (b', cap', tl')) ++ R) w; rw [snk_app]; exact h.sub (List.Sublist.cons _ (List.Sublist.cons_cons _ (List.Sublist.cons_cons _ (List.sublist_cons_self _ _))))
      · refine TE_buildSlice (cells := #[bcell x]) rfl Try.runUnderlying22 Try.sizeOf5 Try.zeroValue5 rfl rfl rfl (by kernel_rfl) trivial rfl fun bv hbv => ?_
        refine TE_l rfl rfl trivial rfl (RD.load (i := 1) Try.isAgg22 rfl rfl rfl) rfl ?_
        refine TE_appendS (i := 2) (n := l'.length) (xs := bcells l') (tl := tl) (ys := [bcell x]) rfl rfl trivial rfl Try.underlying22 elByte rfl rfl rfl rfl rfl (by simp) hok'.2.2 hok'.1 hok'.2.1 (Src.blk (i := 0) (ys := [bcell x]) (tl := []) rfl) rfl (by simp [bcell, Value.oneCell']) (by decide) (maxLen_ge (by omega)) (by omega) (.inr (by simp [snkM])) ?_
        intro b' cap' tl' h1 h2 h3 h4
        refine TE_q rfl rfl (RD.nilCheckP rfl) rfl ?_
        refine TE_q rfl rfl (RD.fieldAddr (o := 0) Try.runUnderlying68 rfl rfl Try.sizeOf22 rfl) rfl ?_
        refine TE_store (i := 1) rfl Try.sizeOf22 trivial rfl rfl rfl rfl rfl rfl (.inr (by simp [snkM])) ?_
        refine TE_nil ?_
        refine pn_endR (σ := List UInt8 × SnkS) (HJ := fun x => snkM 68 5 s x.1 x.2) (s := (l', some (b, cap, tl))) (l := l1) (R := R) (l' ++ [x], some (b', cap', tl')) rfl ⟨by show _ = l ++ (pre ++ [x]); rw [← List.append_assoc, ← hl'], SnkOk_app h1 h2 h3, by simp, snk_all (fun k => k ∈ keys (snkM 68 5 s l st) ∨ w.heap.size ≤ k) (snk_s (fun k => k ∈ keys (snkM 68 5 s l st) ∨ w.heap.size ≤ k) hwh) (h4.elim (fun h => h ▸ snk_b (fun k => k ∈ keys (snkM 68 5 s l st) ∨ w.heap.size ≤ k) hwh) (fun h => .inr (Nat.le_trans hW.size h)))⟩ (fun w h => ?_) (snk_all (fun k => k ∈ keys (snkM 68 5 s l' (some (b, cap, tl))) ∨ W.heap.size ≤ k) (snk_s (fun k => k ∈ keys (snkM 68 5 s l' (some (b, cap, tl))) ∨ W.heap.size ≤ k) in_keys) (h4.elim (fun h => h ▸ snk_b (fun k => k ∈ keys (snkM 68 5 s l' (some (b, cap, tl))) ∨ W.heap.size ≤ k) in_keys) .inr))
        show Hp (snkM 68 5 s (l' ++ [x]) (some (b', cap', tl')) ++ R) w; rw [snk_app]; exact h.sub (List.Sublist.cons _ (List.Sublist.cons_cons _ (List.Sublist.cons_cons _ (List.sublist_cons_self _ _))))
  · rintro D HI' ⟨l', st'⟩ hD ⟨hl', hok', hsm, hwh⟩ rfl; dsimp only at hl' hok' hsm hwh; subst hl'; rcases st' with _ | ⟨b, cap, tl⟩; (have := hsm (by intro h; have := lebL_pos n; rw [h] at this; simp at this); simp at this)
    refine pn_seq ?_
    refine pn_plain [] rfl ?_
    refine TE_l rfl rfl trivial rfl (RD.load (i := 3) Try.isAgg69 rfl rfl rfl) rfl ?_
    refine TE_q rfl rfl (RD.assign rfl) rfl ?_
    refine TE_nil0 ?_
    refine pn_ret ?_
    exact pn_doneC [_, _] [_] rfl rfl rfl ⟨_, rfl, rfl, hok'⟩ (List.sublist_append_left _ _) (fun e he => hwh e he) hD
  · rintro D HI' c pre y hD hpre hS hF; exact hS.elim

end Go.Proofs.Ytloljpefdecmhaa

namespace Go.Proofs.Ytloljpefdecmhaa
open Go Go.Mv
set_option maxRecDepth 4000
theorem c_clone (H : Mem) (xv : Value) (ys : List UInt8) (w : World) (hH : Hp H w) (hb : BytesIn H xv ys) (hlen : ys.length ≤ 2199023255552) : Calls Try.prog 43 #[xv] w (Ret w [] fun v H1 => RetB 5 v H1 ys) := by
  have hb0 := hb
  obtain ⟨a, c, rfl, hb⟩ := hb
  refine fn_enter (args := [_]) Try.func43 rfl Try.ntmps43 rfl hH ?_
  refine pn_seq ?_
  refine pn_plain [] rfl ?_
  refine TE_q rfl rfl (RD.assign rfl) rfl ?_
  refine TE_nil0 ?_
  refine pn_seq ?_
  refine pn_seq ?_
  refine pn_plain [] rfl ?_
  refine TE_q rfl rfl (RD.move rfl) rfl ?_
  refine TE_q rfl rfl (RD.sl_eql_nil Try.runUnderlying22 rfl rfl) rfl ?_
  refine TE_nil0 ?_
  rcases a with _ | ad
  · have hy : ys = [] := Classical.byContradiction fun h => by obtain ⟨_, h', _⟩ := hb h; cases h'
    subst hy
    refine pn_condT rfl ?_
    refine pn_seq ?_
    refine pn_plain [] rfl ?_
    refine TE_q rfl rfl (RD.assign rfl) rfl ?_
    refine TE_nil0 ?_
    refine pn_ret ?_
    exact pn_done rfl rfl (.inr ⟨rfl, rfl, rfl⟩) (List.nil_sublist _) (by simp)
  · refine pn_condF rfl ?_
    refine pn_skip ?_
    refine pn_seq ?_
    refine pn_plain [] rfl ?_
    refine TE_buildSlice0 rfl Try.runUnderlying22 Try.sizeOf5 trivial rfl fun b5 hb5 => ?_
    refine TE_q rfl rfl (RD.move rfl) rfl ?_
    by_cases hy : ys = []
    · subst hy
      refine TE_l rfl rfl trivial rfl (RD.append0 Try.underlying22 elByte rfl rfl (Nat.zero_le _)) rfl ?_
      refine TE_q rfl rfl (RD.assign rfl) rfl ?_
      refine TE_nil0 ?_
      refine pn_ret ?_
      exact pn_done rfl rfl (.inl ⟨b5, 0, [], rfl, rfl, Nat.zero_le _, by decide, rfl⟩) (List.Sublist.cons_cons _ (List.nil_sublist _)) (by simp; exact hb5)
    · refine TE_appendS (i := 0) (n := 0) (xs := []) (tl := []) (ys := bcells ys) rfl rfl trivial rfl Try.underlying22 elByte rfl rfl rfl rfl rfl rfl rfl (Nat.le_refl _) (by decide) (hb0.src hy (fun w hw => hw.left.sub (List.sublist_cons_self _ _))) (by simp) (bcells_one _) (List.length_pos_iff.2 hy) (maxLen_ge (by omega)) (by omega) (.inl hb5) ?_
      intro b' cap' tl' h1 h2 h3 h4
      refine TE_q rfl rfl (RD.assign rfl) rfl ?_
      refine TE_nil0 ?_
      refine pn_ret ?_
      exact pn_done rfl rfl (.inl ⟨b', cap', tl', by show Value.slice _ (0 + ys.length) _ = _; rw [Nat.zero_add], rfl, by omega, h2, by simpa using h3⟩) (List.Sublist.cons_cons _ (List.nil_sublist _)) (by simp; rcases h4 with rfl | h4; exact hb5; exact h4)

theorem c_sinkAll (s : Nat) (l : List UInt8) (st : SnkS) (w : World) (hok : SnkOk l st) (hl : l.length ≤ 2199023255552) (hw : Hp (snkM 68 5 s l st) w) : Calls Try.prog 31 #[.pointer (some ⟨s, 0, none⟩)] w (Ret w [] fun v H1 => RetB 5 v H1 l) := by
  refine fn_enter (args := [_]) Try.func31 rfl Try.ntmps31 rfl hw ?_
  refine pn_seq ?_
  refine pn_plain [] rfl ?_
  refine TE_q rfl rfl (RD.assign rfl) rfl ?_
  refine TE_nil0 ?_
  refine pn_seq ?_
  refine pn_seq ?_
  refine pn_plain [] rfl ?_
  refine TE_q rfl rfl (RD.move rfl) rfl ?_
  refine TE_q rfl rfl (RD.ptr_eql_nil Try.runUnderlying69 rfl rfl) rfl ?_
  refine TE_nil0 ?_
  refine pn_condF rfl ?_
  refine pn_skip ?_
  refine pn_seq ?_
  refine pn_plain [] rfl ?_
  refine TE_q rfl rfl (RD.move rfl) rfl ?_
  refine TE_q rfl rfl (RD.nilCheckP rfl) rfl ?_
  refine TE_q rfl rfl (RD.fieldAddr (o := 0) Try.runUnderlying68 rfl rfl Try.sizeOf22 rfl) rfl ?_
  rcases st with _ | ⟨b, cap, tl⟩
  · obtain rfl : l = [] := hok
    refine TE_l rfl rfl trivial rfl (RD.load (i := 0) Try.isAgg22 rfl rfl rfl) rfl ?_
    refine TE_call rfl rfl trivial Try.call43 rfl rfl rfl (fun w hs => c_clone [] _ [] w (Hp.nil _) BytesIn.nil (by decide)) ?_
    rintro v9 H4 hr hn
    refine TE_q rfl rfl (RD.assign rfl) rfl ?_
    refine TE_nil0 ?_
    refine pn_ret ?_
    exact pn_done rfl rfl hr (List.sublist_append_left _ _) (fun e he => .inr (hn e he))
  · refine TE_l rfl rfl trivial rfl (RD.load (i := 0) Try.isAgg22 rfl rfl rfl) rfl ?_
    refine TE_call rfl rfl trivial Try.call43 rfl rfl rfl (fun w hs => c_clone _ _ l w hs.hp (BytesIn.blk (i := 1) (tl := tl) rfl) hl) ?_
    rintro v9 H4 hr hn
    refine TE_q rfl rfl (RD.assign rfl) rfl ?_
    refine TE_nil0 ?_
    refine pn_ret ?_
    exact pn_done rfl rfl hr (List.sublist_append_left _ _) (fun e he => .inr (hn e he))

theorem c_sinkRaw (HX : Mem) (s : Nat) (l ys : List UInt8) (st : SnkS) (xv : Value) (w : World) (hok : SnkOk l st) (hl : l.length ≤ 1099511627776) (hy1 : ys.length ≤ 1099511627776) (hb : BytesIn HX xv ys) (hw : Hp (snkM 68 5 s l st ++ HX) w) : Calls Try.prog 30 #[(.pointer (some ⟨s, 0, none⟩)), xv] w (Ret w (keys (snkM 68 5 s l st)) fun v H1 => ∃ st', v = (.pointer (some ⟨s, 0, none⟩)) ∧ H1 = snkM 68 5 s (l ++ ys) st' ∧ SnkOk (l ++ ys) st' ∧ (st.isSome → st'.isSome) ∧ (ys ≠ [] → st'.isSome)) := by
  have hb0 := hb
  obtain ⟨a, c, rfl, hb⟩ := hb
  refine fn_enter (args := [_, _]) Try.func30 rfl Try.ntmps30 rfl hw ?_
  refine pn_seq ?_
  refine pn_plain [] rfl ?_
  refine TE_q rfl rfl (RD.assign rfl) rfl ?_
  refine TE_nil0 ?_
  refine pn_seq ?_
  refine pn_seq ?_
  refine pn_plain [] rfl ?_
  refine TE_q rfl rfl (RD.move rfl) rfl ?_
  refine TE_q rfl rfl (RD.ptr_neq_nil Try.runUnderlying69 rfl rfl) rfl ?_
  refine TE_nil0 ?_
  refine pn_condT rfl ?_
  refine pn_plain [] rfl ?_
  refine TE_q rfl rfl (RD.move rfl) rfl ?_
  refine TE_q rfl rfl (RD.move rfl) rfl ?_
  refine TE_q rfl rfl (RD.nilCheckP rfl) rfl ?_
  refine TE_q rfl rfl (RD.fieldAddr (o := 0) Try.runUnderlying68 rfl rfl Try.sizeOf22 rfl) rfl ?_
  by_cases hy : ys = []
  · subst hy
    rcases st with _ | ⟨b, cap, tl⟩
    · obtain rfl : l = [] := hok
      refine TE_l rfl rfl trivial rfl (RD.load (i := 0) Try.isAgg22 rfl rfl rfl) rfl ?_
      refine TE_q rfl rfl (RD.move rfl) rfl ?_
      refine TE_l rfl rfl trivial rfl (RD.append0 Try.underlying22 elByte rfl rfl (Nat.zero_le _)) rfl ?_
      refine TE_q rfl rfl (RD.nilCheckP rfl) rfl ?_
      refine TE_q rfl rfl (RD.fieldAddr (o := 0) Try.runUnderlying68 rfl rfl Try.sizeOf22 rfl) rfl ?_
      refine TE_store (i := 0) rfl Try.sizeOf22 trivial rfl rfl rfl rfl rfl rfl (.inr (by simp [snkM])) ?_
      refine TE_nil0 ?_
      refine pn_seq ?_
      refine pn_plain [] rfl ?_
      refine TE_q rfl rfl (RD.move rfl) rfl ?_
      refine TE_q rfl rfl (RD.assign rfl) rfl ?_
      refine TE_nil0 ?_
      refine pn_ret ?_
      exact pn_done rfl rfl ⟨none, rfl, rfl, rfl, by simp, by simp⟩ (List.sublist_append_left [_] _) (snk_all0 (fun k => k ∈ keys (snkM 68 5 s [] none) ∨ w.heap.size ≤ k) (snk_s (fun k => k ∈ keys (snkM 68 5 s [] none) ∨ w.heap.size ≤ k) in_keys))
    · refine TE_l rfl rfl trivial rfl (RD.load (i := 0) Try.isAgg22 rfl rfl rfl) rfl ?_
      refine TE_q rfl rfl (RD.move rfl) rfl ?_
      refine TE_l rfl rfl trivial rfl (RD.append0 Try.underlying22 elByte rfl rfl hok.1) rfl ?_
      refine TE_q rfl rfl (RD.nilCheckP rfl) rfl ?_
      refine TE_q rfl rfl (RD.fieldAddr (o := 0) Try.runUnderlying68 rfl rfl Try.sizeOf22 rfl) rfl ?_
      refine TE_store (i := 0) rfl Try.sizeOf22 trivial rfl rfl rfl rfl rfl rfl (.inr (by simp [snkM])) ?_
      refine TE_nil0 ?_
      refine pn_seq ?_
      refine pn_plain [] rfl ?_
      refine TE_q rfl rfl (RD.move rfl) rfl ?_
      refine TE_q rfl rfl (RD.assign rfl) rfl ?_
      refine TE_nil0 ?_
      refine pn_ret ?_
      exact pn_done rfl rfl ⟨some (b, cap, tl), rfl, by rw [List.append_nil]; rfl, by rw [List.append_nil]; exact hok, by simp, by simp⟩ (List.sublist_append_left [_, _] _) (snk_all (fun k => k ∈ keys (snkM 68 5 s l (some (b, cap, tl))) ∨ w.heap.size ≤ k) (snk_s (fun k => k ∈ keys (snkM 68 5 s l (some (b, cap, tl))) ∨ w.heap.size ≤ k) in_keys) (snk_b (fun k => k ∈ keys (snkM 68 5 s l (some (b, cap, tl))) ∨ w.heap.size ≤ k) in_keys))
  · rcases st with _ | ⟨b, cap, tl⟩
    · obtain rfl : l = [] := hok
      refine TE_l rfl rfl trivial rfl (RD.load (i := 0) Try.isAgg22 rfl rfl rfl) rfl ?_
      refine TE_q rfl rfl (RD.move rfl) rfl ?_
      refine TE_appendN (ys := bcells ys) rfl rfl trivial rfl Try.underlying22 elByte rfl rfl rfl rfl (hb0.src hy (fun w hw => hw.left.right)) (by simp) (bcells_one _) (List.length_pos_iff.2 hy) (maxLen_ge (by omega)) (by omega) ?_
      intro b' cap' tl' h1 h2 h3 h4
      refine TE_q rfl rfl (RD.nilCheckP rfl) rfl ?_
      refine TE_q rfl rfl (RD.fieldAddr (o := 0) Try.runUnderlying68 rfl rfl Try.sizeOf22 rfl) rfl ?_
      refine TE_store (i := 1) rfl Try.sizeOf22 trivial rfl rfl rfl rfl rfl rfl (.inr (by simp [snkM])) ?_
      refine TE_nil0 ?_
      refine pn_seq ?_
      refine pn_plain [] rfl ?_
      refine TE_q rfl rfl (RD.move rfl) rfl ?_
      refine TE_q rfl rfl (RD.assign rfl) rfl ?_
      refine TE_nil0 ?_
      refine pn_ret ?_
      refine pn_pickT [1, 0] [_, _] _ rfl rfl rfl ?_
      exact pn_done rfl rfl ⟨some (b', cap', tl'), rfl, rfl, SnkOk_app (l := []) (by simpa using h1) h2 h3, by simp, by simp⟩ (List.sublist_append_left [_, _] _) (snk_all (fun k => k ∈ keys (snkM 68 5 s [] none) ∨ w.heap.size ≤ k) (snk_s (fun k => k ∈ keys (snkM 68 5 s [] none) ∨ w.heap.size ≤ k) in_keys) (.inr h4))
    · refine TE_l rfl rfl trivial rfl (RD.load (i := 0) Try.isAgg22 rfl rfl rfl) rfl ?_
      refine TE_q rfl rfl (RD.move rfl) rfl ?_
      refine TE_appendS (i := 1) (n := l.length) (xs := bcells l) (tl := tl) (ys := bcells ys) rfl rfl trivial rfl Try.underlying22 elByte rfl rfl rfl rfl rfl (by simp) hok.2.2 hok.1 hok.2.1 (hb0.src hy (fun w hw => hw.left.right)) (by simp) (bcells_one _) (List.length_pos_iff.2 hy) (maxLen_ge (by omega)) (by omega) (.inr (by simp [snkM])) ?_
      intro b' cap' tl' h1 h2 h3 h4
      refine TE_q rfl rfl (RD.nilCheckP rfl) rfl ?_
      refine TE_q rfl rfl (RD.fieldAddr (o := 0) Try.runUnderlying68 rfl rfl Try.sizeOf22 rfl) rfl ?_
      refine TE_store (i := 0) rfl Try.sizeOf22 trivial rfl rfl rfl rfl rfl rfl (.inr (by simp [snkM])) ?_
      refine TE_nil0 ?_
      refine pn_seq ?_
      refine pn_plain [] rfl ?_
      refine TE_q rfl rfl (RD.move rfl) rfl ?_
      refine TE_q rfl rfl (RD.assign rfl) rfl ?_
      refine TE_nil0 ?_
      refine pn_ret ?_
      exact pn_done rfl rfl ⟨some (b', cap', tl'), rfl, rfl, SnkOk_app h1 h2 h3, by simp, by simp⟩ (by rw [snk_app]; exact List.sublist_append_left [_, _] _) (snk_all (fun k => k ∈ keys (snkM 68 5 s l (some (b, cap, tl))) ∨ w.heap.size ≤ k) (snk_s (fun k => k ∈ keys (snkM 68 5 s l (some (b, cap, tl))) ∨ w.heap.size ≤ k) in_keys) (h4.elim (fun h => h ▸ snk_b (fun k => k ∈ keys (snkM 68 5 s l (some (b, cap, tl))) ∨ w.heap.size ≤ k) in_keys) .inr))

end Go.Proofs.Ytloljpefdecmhaa

namespace Go.Proofs.Ytloljpefdecmhaa
open Go Go.Mv
set_option maxRecDepth 4000
theorem c_sinkBytes (HX : Mem) (s : Nat) (l ys : List UInt8) (st : SnkS) (xv : Value) (w : World) (hok : SnkOk l st) (hl : l.length ≤ 549755813888) (hy1 : ys.length ≤ 549755813888) (hb : BytesIn HX xv ys) (hw : Hp (HX ++ snkM 68 5 s l st) w) : Calls Try.prog 70 #[(.pointer (some ⟨s, 0, none⟩)), xv] w (Ret w (keys (snkM 68 5 s l st)) fun v H1 => ∃ st', v = (.pointer (some ⟨s, 0, none⟩)) ∧ H1 = snkM 68 5 s (l ++ lebL ys.length ++ ys) (some st') ∧ SnkOk (l ++ lebL ys.length ++ ys) (some st')) := by
  have hb0 := hb
  obtain ⟨a, c, rfl, hb⟩ := hb
  have h10 := lebL_len64 (n := ys.length) (by omega)
  refine fn_enter (args := [_, _]) Try.func70 rfl Try.ntmps70 rfl hw ?_
  refine pn_seq ?_
  refine pn_plain [] rfl ?_
  refine TE_q rfl rfl (RD.assign rfl) rfl ?_
  refine TE_nil0 ?_
  refine pn_seq ?_
  refine pn_plain [2, 3] rfl ?_
  refine TE_q rfl rfl (RD.move rfl) rfl ?_
  refine TE_q rfl rfl (RD.move rfl) rfl ?_
  refine TE_q rfl rfl (RD.len_slice Try.runUnderlying22 rfl) rfl ?_
  refine TE_q rfl rfl (RD.as (RD.conv Try.runUnderlying3 Try.runUnderlying83 rfl) (u64_len (by omega))) rfl ?_
  refine TE_callT HX _ rfl rfl rfl trivial Try.call71 rfl rfl rfl (snk_in rfl) (fun w hs => c_sinkNumber s ys.length l st w (by omega) hok (by omega) hs.hp.mid) ?_
  rintro v9 H4 ⟨⟨b', cap', tl'⟩, rfl, rfl, hok1⟩ hX1
  refine TE_q rfl rfl (RD.move rfl) rfl ?_
  refine TE_callT HX _ rfl rfl rfl trivial Try.call30 rfl rfl rfl hX1 (fun w hs => c_sinkRaw HX s _ ys _ _ w hok1 (by simp <;> omega) (by omega) hb0 (hs.hp.left.perm List.perm_append_comm)) ?_
  rintro v11 H6 ⟨st2, rfl, rfl, hok2, hs2, -⟩ hX2
  refine TE_q rfl rfl (RD.assign rfl) rfl ?_
  refine TE_nil0 ?_
  refine pn_ret ?_
  obtain ⟨st3, rfl⟩ := Option.isSome_iff_exists.1 (hs2 rfl); exact pn_done rfl rfl ⟨st3, rfl, rfl, hok2⟩ (List.sublist_append_right _ _) (where_ hX2)

end Go.Proofs.Ytloljpefdecmhaa

namespace Go.Proofs.Ytloljpefdecmhaa
open Go Go.Mv
set_option maxRecDepth 4000
def byteBad (b : UInt8) : Bool := decide (b.toNat < 33) || decide (126 < b.toNat) || decide (0 ≤ Lib.indexByte [126, 94, 58, 63, 42, 91, 92] b)
def byByteB (s : ByteArray) : Bool := s.data.toList.any byteBad
end Go.Proofs.Ytloljpefdecmhaa

namespace Go.Proofs.Ytloljpefdecmhaa
open Go Go.Mv
set_option maxRecDepth 4000
def pLong (s : ByteArray) : Bool := decide (s = ⟨#[]⟩) || decide (100 < (s.size : Int))
def pEmpty (s : ByteArray) : Bool := decide (s = ⟨#[]⟩)
def pDot (s : ByteArray) : Bool := Lib.hasPrefix s.data.toList [46]
def pLock (s : ByteArray) : Bool := Lib.hasSuffix s.data.toList [46, 108, 111, 99, 107]
def pEnd (s : ByteArray) : Bool := Lib.hasSuffix s.data.toList [46]
def pHas (u : ByteArray) (s : ByteArray) : Bool := Lib.contains s.data.toList u.data.toList
def pPart (f : ByteArray → Bool) (s : ByteArray) : Bool := (partsOf s).any f
end Go.Proofs.Ytloljpefdecmhaa

namespace Go.Proofs.Ytloljpefdecmhaa
open Go Go.Mv
set_option maxRecDepth 4000
def brk (n : Int) (s : ByteArray) : Bool := bif decide (n = 1) then pLong s else bif decide (n = 2) then byByteB s else bif decide (n = 3) then pPart pEmpty s else bif decide (n = 4) then pPart pDot s else bif decide (n = 5) then pHas ⟨#[46, 46]⟩ s else bif decide (n = 6) then pPart pLock s else bif decide (n = 7) then pEnd s else pHas ⟨#[64, 123]⟩ s
/-- P4.1: the first rule that a name breaks. -/
def breaksN (s : ByteArray) : Int := (([1, 2, 3, 4, 5, 6, 7, 8] : List Int).find? fun n => brk n s).getD 0
end Go.Proofs.Ytloljpefdecmhaa

namespace Go.Proofs.Ytloljpefdecmhaa
open Go Go.Mv
set_option maxRecDepth 8000
theorem info_u8 : Try.prog.info? 5 = some Try.t5 := by kernel_rfl
theorem cells_u8 : Try.prog.cellsOf 5 = 1 := by kernel_rfl
theorem eq_id (f g : Nat → Int) (w : World) : (Op.equalIn 10000 25 (.agg (idV f).cells) (.agg (idV g).cells)).run Try.prog w = .ok (sameN 32 f g) w :=
  eqIn_ints (d := 9998) (k := .u8) Try.underlying25 info_u8 Try.underlying5 Try.isAgg5 cells_u8 (fun _ hi => ⟨id_at f hi, id_at g hi⟩) w
def tip0 (r : Rec) : Bool := sameN 32 r.tip fun _ => 0
/-- P12.1: a record that may be. -/
def recOkB (r : Rec) : Bool := dotOk r.s r.c && decide (r.ctx r.s.toNat = r.c - 1) && decide (breaksN r.ref = 0) && (r.has || tip0 r)
end Go.Proofs.Ytloljpefdecmhaa

namespace Go.Proofs.Ytloljpefdecmhaa
open Go Go.Mv
set_option maxRecDepth 8000
/-- Two records whose cells are the same. -/
structure SameR (a b : Rec) : Prop where
  s : a.s = b.s
  c : a.c = b.c
  ctx : ∀ i, i < 16 → a.ctx i = b.ctx i
  ref : a.ref = b.ref
  has : a.has = b.has
  tip : ∀ i, i < 32 → a.tip i = b.tip i
theorem sameN_congr {a b c : Nat → Int} (n : Nat) (h : ∀ i, i < n → a i = b i) : sameN n a c = sameN n b c := by
  apply Bool.eq_iff_iff.2
  rw [sameN_iff, sameN_iff]
  exact ⟨fun k i hi => (h i hi).symm.trans (k i hi), fun k i hi => (h i hi).trans (k i hi)⟩
theorem SameR.ok {a b : Rec} (h : SameR a b) : recOkB a = recOkB b := by
  simp only [recOkB]
  rw [show tip0 a = tip0 b from sameN_congr 32 h.tip, h.s, h.c, h.ref, h.has]
  cases hd : dotOk b.s b.c with
  | false => rfl
  | true =>
    have := dotOk_iff.1 hd
    rw [h.ctx b.s.toNat (by omega)]
theorem eqIn_string {P : Program} {T : TypeId} {w : World} {d : Nat} {a b : ByteArray} (hT : P.underlying T = some .string) : (Op.equalIn (d + 1) T (.string a) (.string b)).run P w = .ok (decide (a = b)) w := by
  rw [run_equalIn_string w d T a b hT, string_beq]
end Go.Proofs.Ytloljpefdecmhaa

namespace Go.Proofs.Ytloljpefdecmhaa
open Go Go.Mv
set_option maxRecDepth 8000
def rawD (n : Nat) (ys : List UInt8) : Dr (List UInt8) := if ys.length < n then .err 10 else .ok (ys.take n) (ys.drop n)
def bytesD (most : Nat) (ys : List UInt8) : Dr (List UInt8) :=
  match numD most ys with
  | .err e => .err e
  | .ok n r => rawD n r
def tipOf (l : List UInt8) : Nat → Int := fun i => ((l.getD i 0).toNat : Int)
end Go.Proofs.Ytloljpefdecmhaa
