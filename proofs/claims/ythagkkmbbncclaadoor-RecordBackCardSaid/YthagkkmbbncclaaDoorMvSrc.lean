import Derived.Test.YthagkkmbbncclaaDoorMvCopy
namespace Go.Mv
open Go

/-- Bytes that can be read, at a slice that can be parted. -/
def Rdb (H : Mem) (v : Value) (ys : List UInt8) : Prop :=
  (v = .slice none 0 0 ∧ ys = []) ∨ ∃ b off cap, v = .slice (some ⟨b, off, none⟩) ys.length cap ∧ ys.length ≤ cap ∧ ∀ w, Hp H w → ∀ j u, (bcells ys)[j]? = some u → w.cell? ⟨b, off + j, none⟩ = some u

def subV (l h : Nat) : Value → Value
  | .slice (some ⟨b, off, _⟩) _ cap => .slice (some ⟨b, if cap = l then off else off + l, none⟩) (h - l) (cap - l)
  | v => v

theorem Rdb.mono {H H' : Mem} {v : Value} {ys : List UInt8} (h : Rdb H v ys) (hs : ∀ w, Hp H' w → Hp H w) : Rdb H' v ys := by
  rcases h with h | ⟨b, off, cap, h1, h2, h3⟩
  · exact .inl h
  · exact .inr ⟨b, off, cap, h1, h2, fun w hw => h3 w (hs w hw)⟩

theorem Rdb.sub {H : Mem} {v : Value} {ys : List UInt8} (h : Rdb H v ys) {l r : Nat} (h1 : l ≤ r) (h2 : r ≤ ys.length) : Rdb H (subV l r v) ((ys.take r).drop l) := by
  rcases h with ⟨rfl, rfl⟩ | ⟨b, off, cap, rfl, h3, h4⟩
  · exact .inl ⟨rfl, by simp⟩
  · refine .inr ⟨b, if cap = l then off else off + l, cap - l, ?_, ?_, ?_⟩
    · simp only [subV, List.length_drop, List.length_take, Nat.min_eq_left h2]
    · simp only [List.length_drop, List.length_take]; omega
    · intro w hw j u hj
      obtain ⟨hlt, _⟩ := List.getElem?_eq_some_iff.1 hj
      simp only [length_bcells, List.length_drop, List.length_take] at hlt
      have hne : ¬ cap = l := by omega
      rw [if_neg hne, Nat.add_assoc]
      refine h4 w hw (l + j) u ?_
      rw [← hj, bcells_get, bcells_get, List.getElem?_drop, List.getElem?_take_of_lt (by omega)]

theorem Rdb.cut {H : Mem} {v : Value} {ys : List UInt8} (h : Rdb H v ys) {l : Nat} (h1 : l ≤ ys.length) : Rdb H (subV l ys.length v) (ys.drop l) := by
  have := h.sub h1 (Nat.le_refl _); rwa [List.take_length] at this

theorem Rdb.bytes {H : Mem} {v : Value} {ys : List UInt8} (h : Rdb H v ys) : BytesIn H v ys := by
  rcases h with ⟨rfl, rfl⟩ | ⟨b, off, cap, rfl, h3, h4⟩
  · exact BytesIn.nil
  · refine ⟨_, cap, rfl, fun _ => ⟨_, rfl, fun w hw j u hj => ?_⟩⟩
    have hadd : (⟨b, off, none⟩ : Addr).add j = ⟨b, off + j, none⟩ := by
      unfold Addr.add; split
      · rename_i h; simp
      · rfl
    rw [hadd]; exact h4 w hw j u hj

theorem RetB.rdb {u : TypeId} {v : Value} {H1 : Mem} {ys : List UInt8} (h : RetB u v H1 ys) : Rdb H1 v ys := by
  rcases h with ⟨b, cap, tl, rfl, rfl, h1, h2, h3⟩ | ⟨rfl, rfl, rfl⟩
  · refine .inr ⟨b, 0, cap, rfl, h1, fun w hw j u hj => ?_⟩
    rw [Nat.zero_add, cell_of hw (i := 0) (off := j) rfl]
    obtain ⟨hlt, _⟩ := List.getElem?_eq_some_iff.1 hj
    simp [List.getElem?_append_left hlt, hj]
  · exact .inl ⟨rfl, rfl⟩

theorem Rdb.cons {H : Mem} {v : Value} {c : UInt8} {r : List UInt8} (h : Rdb H v (c :: r)) : ∃ b off cap, v = .slice (some ⟨b, off, none⟩) (r.length + 1) cap ∧ r.length + 1 ≤ cap ∧ ∀ w, Hp H w → w.cell? ⟨b, off, none⟩ = some (bcell c) := by
  rcases h with ⟨_, h⟩ | ⟨b, off, cap, rfl, h3, h4⟩
  · cases h
  · exact ⟨b, off, cap, rfl, h3, fun w hw => h4 w hw 0 _ rfl⟩

theorem Rdb.shape {H : Mem} {v : Value} {ys : List UInt8} (h : Rdb H v ys) : ∃ a c, v = .slice a ys.length c := by
  rcases h with ⟨rfl, rfl⟩ | ⟨b, off, cap, rfl, h3, h4⟩
  · exact ⟨_, _, rfl⟩
  · exact ⟨_, _, rfl⟩

theorem Rdb.at {H : Mem} {v : Value} {ys : List UInt8} (h : Rdb H v ys) {i : Nat} {c : UInt8} (hi : ys[i]? = some c) : ∃ b off cap, v = .slice (some ⟨b, off, none⟩) ys.length cap ∧ ys.length ≤ cap ∧ ∀ w, Hp H w → w.cell? ⟨b, off + i, none⟩ = some (bcell c) := by
  rcases h with ⟨_, rfl⟩ | ⟨b, off, cap, rfl, h3, h4⟩
  · simp at hi
  · exact ⟨b, off, cap, rfl, h3, fun w hw => h4 w hw i _ (by rw [bcells_get, hi]; rfl)⟩

section rd
variable {P : Program} {ty : TypeId} {E : Env} {L : Mem} {v u : Value} {x y z : Operand} {T U : TypeId}

theorem RD.lenR {H : Mem} {ys : List UInt8} {e : TypeId} (hT : ∀ w, (underlying T).run P w = .ok (.slice e) w) (hx : evalE E x = some v) (hb : Rdb H v ys) : RD P (.call ⟨.builtin .len, #[x], #[T]⟩) ty E L (.int .i64 ys.length) := by
  obtain ⟨a, c, rfl⟩ := hb.shape
  exact RD.len_slice hT hx

/-- A cell that is known to be there. -/
theorem RD.loadC {b off : Nat} (ha : ∀ w, (isAgg T).run P w = .ok false w) (hx : evalE E x = some (.pointer (some ⟨b, off, none⟩))) (hc : ∀ w, Hp L w → w.cell? ⟨b, off, none⟩ = some v) : RD P (.load T x) ty E L v := fun ρ w _ _ _ _ hρ hL => by
  simp [execOp, hρ _ _ hx, Instr.loadAt, Instr.sureAddr, loadVar, ha, hc w hL]

theorem RD.sliceR {H : Mem} {ys : List UInt8} {el : TypeId} {lo hi : Option Operand} {l h : Nat} (hT : ∀ w, (underlying T).run P w = .ok (.slice el) w) (hz : ∀ w, (sizeOf el).run P w = .ok 1 w) (hx : evalE E x = some v) (hb : Rdb H v ys)
    (hlo : match lo with | none => l = 0 | some o => ∃ k, evalE E o = some (.int k l)) (hhi : match hi with | none => h = ys.length | some o => ∃ k, evalE E o = some (.int k h)) (h1 : l ≤ h) (h2 : h ≤ ys.length) :
    RD P (.slice T x lo hi none) ty E L (subV l h v) := fun ρ w _ _ _ _ hρ _ => by
  have hadd : ∀ b off, (⟨b, off, none⟩ : Addr).add l = ⟨b, off + l, none⟩ := fun b off => by
    unfold Addr.add; split
    · rename_i h; simp [h]
    · rfl
  rcases hb with ⟨rfl, rfl⟩ | ⟨b, off, cap, rfl, h3, h4⟩
  · have h0 : h = 0 := by simpa using h2
    subst h0
    have l0 : l = 0 := by omega
    subst l0
    cases lo with
    | none =>
      cases hi with
      | none => simp [execOp, Instr.sliceAt, Instr.slice, Instr.sliceBounds, hT, hz, hρ _ _ hx, subV]
      | some o =>
        obtain ⟨k, ho⟩ := hhi
        simp [execOp, Instr.sliceAt, Instr.slice, Instr.sliceBounds, Instr.sliceBound, asIntOf, hT, hz, hρ _ _ hx, hρ _ _ ho, subV]
    | some o' =>
      obtain ⟨k', ho'⟩ := hlo
      cases hi with
      | none => simp [execOp, Instr.sliceAt, Instr.slice, Instr.sliceBounds, Instr.sliceBound, asIntOf, hT, hz, hρ _ _ hx, hρ _ _ ho', subV]
      | some o =>
        obtain ⟨k, ho⟩ := hhi
        simp [execOp, Instr.sliceAt, Instr.slice, Instr.sliceBounds, Instr.sliceBound, asIntOf, hT, hz, hρ _ _ hx, hρ _ _ ho, hρ _ _ ho', subV]
  · have h2' : h ≤ cap := by omega
    cases lo with
    | none =>
      subst hlo
      cases hi with
      | none => subst hhi; simp [execOp, Instr.sliceAt, Instr.slice, Instr.sliceBounds, hT, hz, hρ _ _ hx, Addr.add, subV]
      | some o =>
        obtain ⟨k, ho⟩ := hhi
        simp [execOp, Instr.sliceAt, Instr.slice, Instr.sliceBounds, Instr.sliceBound, asIntOf, hT, hz, hρ _ _ hx, hρ _ _ ho, Addr.add, h2', subV]
    | some o' =>
      obtain ⟨k', ho'⟩ := hlo
      by_cases hc : cap = l
      · cases hi with
        | none =>
          subst hhi
          simp [execOp, Instr.sliceAt, Instr.slice, Instr.sliceBounds, Instr.sliceBound, asIntOf, hT, hz, hρ _ _ hx, hρ _ _ ho', h1, subV, hc]
        | some o =>
          obtain ⟨k, ho⟩ := hhi
          have : h ≤ l := by omega
          simp [execOp, Instr.sliceAt, Instr.slice, Instr.sliceBounds, Instr.sliceBound, asIntOf, hT, hz, hρ _ _ hx, hρ _ _ ho, hρ _ _ ho', h1, this, subV, hc]
      · cases hi with
        | none =>
          subst hhi
          simp [execOp, Instr.sliceAt, Instr.slice, Instr.sliceBounds, Instr.sliceBound, asIntOf, hT, hz, hρ _ _ hx, hρ _ _ ho', h1, hadd, subV, hc]
        | some o =>
          obtain ⟨k, ho⟩ := hhi
          simp [execOp, Instr.sliceAt, Instr.slice, Instr.sliceBounds, Instr.sliceBound, asIntOf, hT, hz, hρ _ _ hx, hρ _ _ ho, hρ _ _ ho', h1, h2', hadd, subV, hc]
end rd

/-! ### P1.2: reading a number -/
inductive NumR where
  | ok (n : Nat) (rest : List UInt8)
  | short
  | form

/-- 'k' bytes were read; they come to 'acc'. -/
def decL : List UInt8 → Nat → Nat → NumR
  | [], _, _ => .short
  | c :: r, k, acc =>
    if (k = 9 ∧ (c.toNat % 128 > 1 ∨ ¬ c.toNat < 128)) ∨ (c.toNat < 128 ∧ c.toNat % 128 = 0 ∧ 0 < k) then .form
    else if c.toNat < 128 then .ok (acc + c.toNat % 128 * 128 ^ k) r
    else decL r (k + 1) (acc + c.toNat % 128 * 128 ^ k)

def numR (ys : List UInt8) : NumR := decL ys 0 0

/-- What reading comes to: what was read and what is left, or an error's number. -/
inductive Dr (α : Type) where
  | ok (x : α) (r : List UInt8)
  | err (e : Int)

def numD (most : Nat) (ys : List UInt8) : Dr Nat :=
  match numR ys with
  | .short => .err 10
  | .form => .err 11
  | .ok n r => if most < n then .err 12 else .ok n r

theorem decL_ok : ∀ (ys : List UInt8) (k acc n : Nat) (r : List UInt8), k ≤ 9 → acc < 128 ^ k → decL ys k acc = .ok n r → ∃ m, n = acc + m * 128 ^ k ∧ (0 < k → 0 < m) ∧ ys = lebL m ++ r ∧ m * 128 ^ k < 18446744073709551616
  | [], k, acc, n, r, _, _, h => by simp [decL] at h
  | c :: ys, k, acc, n, r, hk, ha, h => by
    have hc : c.toNat < 256 := c.toNat_lt
    have hp : 0 < 128 ^ k := Nat.pow_pos (by decide)
    have h9 : k ≤ 8 → 128 ^ k * 128 ≤ 9223372036854775808 := fun h => by
      have : 128 ^ (k + 1) ≤ 128 ^ 9 := Nat.pow_le_pow_right (by decide) (by omega)
      rw [Nat.pow_succ] at this; exact this
    simp only [decL] at h
    split at h
    · cases h
    · rename_i hform
      split at h
      · rename_i hw
        simp only [NumR.ok.injEq] at h
        obtain ⟨rfl, rfl⟩ := h
        have hm : c.toNat % 128 = c.toNat := Nat.mod_eq_of_lt hw
        refine ⟨c.toNat, by rw [hm], fun h0 => ?_, ?_, ?_⟩
        · rw [hm] at hform; omega
        · rw [lebL_small hw, UInt8.ofNat_toNat]; rfl
        · by_cases h8 : k ≤ 8
          · have := h9 h8
            have h2 : c.toNat * 128 ^ k ≤ 127 * 128 ^ k := Nat.mul_le_mul_right _ (by omega)
            omega
          · have : k = 9 := by omega
            subst this
            have : c.toNat ≤ 1 := by rw [hm] at hform; omega
            have h2 : c.toNat * 128 ^ 9 ≤ 1 * 128 ^ 9 := Nat.mul_le_mul_right _ this
            have h3 : (128 : Nat) ^ 9 = 9223372036854775808 := by decide
            omega
      · rename_i hw
        have hk8 : k ≤ 8 := by omega
        have ha' : acc + c.toNat % 128 * 128 ^ k < 128 ^ (k + 1) := by
          have h2 : c.toNat % 128 * 128 ^ k ≤ 127 * 128 ^ k := Nat.mul_le_mul_right _ (by omega)
          rw [Nat.pow_succ]; omega
        obtain ⟨m, rfl, hm0, rfl, hb⟩ := decL_ok ys (k + 1) _ n r (by omega) ha' h
        refine ⟨m * 128 + c.toNat % 128, ?_, fun _ => by have := hm0 (by omega); omega, ?_, ?_⟩
        · rw [Nat.pow_succ, Nat.add_mul, Nat.mul_comm (128 ^ k) 128, ← Nat.mul_assoc]; omega
        · have h1 : ¬ m * 128 + c.toNat % 128 < 128 := by have := hm0 (by omega); omega
          rw [lebL_big h1]
          have e1 : (m * 128 + c.toNat % 128) / 128 = m := by omega
          have e2 : (m * 128 + c.toNat % 128) % 128 + 128 = c.toNat := by omega
          rw [e1, e2, UInt8.ofNat_toNat]; rfl
        · have h3 : (m * 128 + c.toNat % 128) * 128 ^ k < (m + 1) * 128 ^ (k + 1) := by
            rw [Nat.pow_succ, Nat.mul_comm (128 ^ k) 128, ← Nat.mul_assoc]
            exact Nat.mul_lt_mul_of_pos_right (by omega) hp
          have h4 : (m + 1) * 128 ^ (k + 1) ≤ 18446744073709551616 := by
            have h5 : 128 ^ (k + 1) * 2 ^ (64 - 7 * (k + 1)) = 18446744073709551616 := by
              have : k = 0 ∨ k = 1 ∨ k = 2 ∨ k = 3 ∨ k = 4 ∨ k = 5 ∨ k = 6 ∨ k = 7 ∨ k = 8 := by omega
              rcases this with rfl | rfl | rfl | rfl | rfl | rfl | rfl | rfl | rfl <;> decide
            have h6 : m < 2 ^ (64 - 7 * (k + 1)) := by
              refine Nat.lt_of_mul_lt_mul_left (a := 128 ^ (k + 1)) ?_
              rw [h5, Nat.mul_comm]; exact hb
            rw [← h5, Nat.mul_comm]
            exact Nat.mul_le_mul_left _ h6
          omega

theorem numR_ok {ys : List UInt8} {n : Nat} {r : List UInt8} (h : numR ys = .ok n r) : ys = lebL n ++ r ∧ n < 18446744073709551616 := by
  obtain ⟨m, hn, _, h1, h2⟩ := decL_ok ys 0 0 n r (by omega) (by decide) h
  have : m = n := by rw [hn, Nat.zero_add, Nat.pow_zero, Nat.mul_one]
  subst this
  exact ⟨h1, by simpa using h2⟩

theorem decL_leb : ∀ (f m k acc : Nat) (r : List UInt8), m ≤ f → k ≤ 9 → (0 < k → 0 < m) → m * 128 ^ k < 18446744073709551616 → decL (lebL m ++ r) k acc = .ok (acc + m * 128 ^ k) r
  | f, m, k, acc, r, hf, hk, hm, hb => by
    by_cases h : m < 128
    · rw [lebL_small h]
      have ht : (UInt8.ofNat m).toNat = m := UInt8.toNat_ofNat_of_lt' (show m < 256 by omega)
      have hmod : m % 128 = m := Nat.mod_eq_of_lt h
      simp only [List.cons_append, List.nil_append, decL, ht, hmod]
      rw [if_neg, if_pos h]
      rintro (⟨rfl, h1 | h1⟩ | ⟨_, h1, h2⟩)
      · have h3 : (128 : Nat) ^ 9 = 9223372036854775808 := by decide
        have : 2 * 128 ^ 9 ≤ m * 128 ^ 9 := Nat.mul_le_mul_right _ (by omega)
        omega
      · omega
      · have := hm h2; omega
    · cases f with
      | zero => omega
      | succ f =>
        rw [lebL_big h]
        have ht : (UInt8.ofNat (m % 128 + 128)).toNat = m % 128 + 128 := UInt8.toNat_ofNat_of_lt' (show m % 128 + 128 < 256 by omega)
        have hmod : (m % 128 + 128) % 128 = m % 128 := by omega
        have hk8 : k ≠ 9 := by
          rintro rfl
          have h3 : (128 : Nat) ^ 9 = 9223372036854775808 := by decide
          have : 128 * 128 ^ 9 ≤ m * 128 ^ 9 := Nat.mul_le_mul_right _ (by omega)
          omega
        simp only [List.cons_append, decL, ht, hmod]
        rw [if_neg (by omega), if_neg (by omega)]
        have e : m * 128 ^ k = m % 128 * 128 ^ k + m / 128 * 128 ^ (k + 1) := by
          conv => lhs; rw [← Nat.mod_add_div m 128, Nat.add_mul]
          rw [Nat.pow_succ, Nat.mul_comm (128 ^ k) 128, ← Nat.mul_assoc, Nat.mul_comm 128 (m / 128)]
        have h3 : m / 128 * 128 ^ (k + 1) < 18446744073709551616 := by omega
        rw [decL_leb f (m / 128) (k + 1) _ r (by omega) (by omega) (fun _ => by omega) h3, e, Nat.add_assoc]

theorem numR_leb {n : Nat} (r : List UInt8) (h : n < 18446744073709551616) : numR (lebL n ++ r) = .ok n r := by
  have := decL_leb n n 0 0 r (Nat.le_refl _) (by omega) (by omega) (by simpa using h)
  simpa [numR] using this

theorem numD_leb {n most : Nat} (r : List UInt8) (h : n < 18446744073709551616) (hm : n ≤ most) : numD most (lebL n ++ r) = .ok n r := by
  simp only [numD, numR_leb r h]; rw [if_neg (by omega)]

theorem numD_ok {most n : Nat} {ys r : List UInt8} (h : numD most ys = .ok n r) : ys = lebL n ++ r ∧ n ≤ most ∧ n < 18446744073709551616 := by
  simp only [numD] at h
  split at h
  · cases h
  · cases h
  · rename_i n' r' hn
    split at h
    · cases h
    · simp only [Dr.ok.injEq] at h
      obtain ⟨rfl, rfl⟩ := h
      obtain ⟨h1, h2⟩ := numR_ok hn
      exact ⟨h1, by omega, h2⟩
theorem numD_err {most : Nat} {ys : List UInt8} {e : Int} (h : numD most ys = .err e) : e ≠ 0 := by
  simp only [numD] at h
  split at h
  · cases h; decide
  · cases h; decide
  · split at h
    · cases h; decide
    · cases h
end Go.Mv
