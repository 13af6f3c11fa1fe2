import Derived.Test.YthagkkmbbncclaaDoorMvRd
namespace Go.Mv
open Go

def dotV (s c : Int) : Value := .agg #[.int .i64 s, .int .i64 c]
/-- Sixteen counters. -/
def vecV (v : Nat → Int) : Value := .agg #[.int .u32 (v 0), .int .u32 (v 1), .int .u32 (v 2), .int .u32 (v 3), .int .u32 (v 4), .int .u32 (v 5), .int .u32 (v 6), .int .u32 (v 7), .int .u32 (v 8), .int .u32 (v 9), .int .u32 (v 10), .int .u32 (v 11), .int .u32 (v 12), .int .u32 (v 13), .int .u32 (v 14), .int .u32 (v 15)]
/-- Thirty-two bytes. -/
def idV (t : Nat → Int) : Value := .agg #[.int .u8 (t 0), .int .u8 (t 1), .int .u8 (t 2), .int .u8 (t 3), .int .u8 (t 4), .int .u8 (t 5), .int .u8 (t 6), .int .u8 (t 7), .int .u8 (t 8), .int .u8 (t 9), .int .u8 (t 10), .int .u8 (t 11), .int .u8 (t 12), .int .u8 (t 13), .int .u8 (t 14), .int .u8 (t 15), .int .u8 (t 16), .int .u8 (t 17), .int .u8 (t 18), .int .u8 (t 19), .int .u8 (t 20), .int .u8 (t 21), .int .u8 (t 22), .int .u8 (t 23), .int .u8 (t 24), .int .u8 (t 25), .int .u8 (t 26), .int .u8 (t 27), .int .u8 (t 28), .int .u8 (t 29), .int .u8 (t 30), .int .u8 (t 31)]
structure Rec where
  s : Int
  c : Int
  ctx : Nat → Int
  ref : ByteArray
  has : Bool
  tip : Nat → Int
def recV (r : Rec) : Value := .agg #[.int .i64 r.s, .int .i64 r.c, .int .u32 (r.ctx 0), .int .u32 (r.ctx 1), .int .u32 (r.ctx 2), .int .u32 (r.ctx 3), .int .u32 (r.ctx 4), .int .u32 (r.ctx 5), .int .u32 (r.ctx 6), .int .u32 (r.ctx 7), .int .u32 (r.ctx 8), .int .u32 (r.ctx 9), .int .u32 (r.ctx 10), .int .u32 (r.ctx 11), .int .u32 (r.ctx 12), .int .u32 (r.ctx 13), .int .u32 (r.ctx 14), .int .u32 (r.ctx 15), .string r.ref, .bool r.has, .int .u8 (r.tip 0), .int .u8 (r.tip 1), .int .u8 (r.tip 2), .int .u8 (r.tip 3), .int .u8 (r.tip 4), .int .u8 (r.tip 5), .int .u8 (r.tip 6), .int .u8 (r.tip 7), .int .u8 (r.tip 8), .int .u8 (r.tip 9), .int .u8 (r.tip 10), .int .u8 (r.tip 11), .int .u8 (r.tip 12), .int .u8 (r.tip 13), .int .u8 (r.tip 14), .int .u8 (r.tip 15), .int .u8 (r.tip 16), .int .u8 (r.tip 17), .int .u8 (r.tip 18), .int .u8 (r.tip 19), .int .u8 (r.tip 20), .int .u8 (r.tip 21), .int .u8 (r.tip 22), .int .u8 (r.tip 23), .int .u8 (r.tip 24), .int .u8 (r.tip 25), .int .u8 (r.tip 26), .int .u8 (r.tip 27), .int .u8 (r.tip 28), .int .u8 (r.tip 29), .int .u8 (r.tip 30), .int .u8 (r.tip 31)]

/-- The counters are such. -/
def VecOk (v : Nat → Int) : Prop := ∀ i, 0 ≤ v i ∧ v i ≤ 4294967295
def IdOk (t : Nat → Int) : Prop := ∀ i, 0 ≤ t i ∧ t i ≤ 255
def i64Ok (x : Int) : Prop := -9223372036854775808 ≤ x ∧ x ≤ 9223372036854775807
structure RecOk (r : Rec) : Prop where
  s : i64Ok r.s
  c : i64Ok r.c
  ctx : VecOk r.ctx
  tip : IdOk r.tip

theorem rec_dot (r : Rec) : Value.agg ((recV r).cells.extract 0 (0 + 2)) = dotV r.s r.c := by simp [recV, dotV, Value.cells]
theorem rec_dot0 (r : Rec) : Value.agg ((recV r).cells.extract (0 + 0) (0 + 0 + 2)) = dotV r.s r.c := by simp [recV, dotV, Value.cells]
theorem rec_ctx (r : Rec) : Value.agg ((recV r).cells.extract (0 + 2) (0 + 2 + 16)) = vecV r.ctx := by simp [recV, vecV, Value.cells]
theorem rec_tip (r : Rec) : Value.agg ((recV r).cells.extract (0 + 20) (0 + 20 + 32)) = idV r.tip := by simp [recV, idV, Value.cells]
theorem rec_ctx' (r : Rec) : Value.agg ((recV r).cells.extract 2 (2 + 16)) = vecV r.ctx := by simp [recV, vecV, Value.cells]
theorem rec_tip' (r : Rec) : Value.agg ((recV r).cells.extract 20 (20 + 32)) = idV r.tip := by simp [recV, idV, Value.cells]
theorem rec_all (r : Rec) : Value.agg ((recV r).cells.extract 0 (0 + 52)) = recV r := by simp [recV, Value.cells]
theorem dot_all (s c : Int) : Value.agg ((dotV s c).cells.extract 0 (0 + 2)) = dotV s c := by simp [dotV, Value.cells]
theorem vec_all (v : Nat → Int) : Value.agg ((vecV v).cells.extract 0 (0 + 16)) = vecV v := by simp [vecV, Value.cells]
theorem id_all (v : Nat → Int) : Value.agg ((idV v).cells.extract 0 (0 + 32)) = idV v := by simp [idV, Value.cells]

/-- An error's number: none, or e. -/
def err (b : Bool) (e : Int) : Int := bif b then 0 else e
theorem err0 {b : Bool} {e : Int} (h : err b e = 0) (he : e ≠ 0 := by decide) : b = true := by cases b <;> simp_all [err]
theorem err1 {b : Bool} {e : Int} (h : ¬ err b e = 0) : b = false := by cases b <;> simp_all [err]

theorem lt16 {i : Nat} (h : i < 16) : i = 0 ∨ i = 1 ∨ i = 2 ∨ i = 3 ∨ i = 4 ∨ i = 5 ∨ i = 6 ∨ i = 7 ∨ i = 8 ∨ i = 9 ∨ i = 10 ∨ i = 11 ∨ i = 12 ∨ i = 13 ∨ i = 14 ∨ i = 15 := by omega
theorem vec_at (v : Nat → Int) {i : Nat} (h : i < 16) : (vecV v).cells[i]? = some (.int .u32 (v i)) := by
  rcases lt16 h with rfl | rfl | rfl | rfl | rfl | rfl | rfl | rfl | rfl | rfl | rfl | rfl | rfl | rfl | rfl | rfl <;> rfl
theorem rec_ctx_at (r : Rec) {i : Nat} (h : i < 16) : (recV r).cells[2 + i]? = some (.int .u32 (r.ctx i)) := by
  rcases lt16 h with rfl | rfl | rfl | rfl | rfl | rfl | rfl | rfl | rfl | rfl | rfl | rfl | rfl | rfl | rfl | rfl <;> rfl
theorem lt32 {i : Nat} (h : i < 32) : i < 16 ∨ ∃ j, j < 16 ∧ i = 16 + j := by
  by_cases h' : i < 16
  · exact .inl h'
  · exact .inr ⟨i - 16, by omega, by omega⟩
theorem id_at (v : Nat → Int) {i : Nat} (h : i < 32) : (idV v).cells[i]? = some (.int .u8 (v i)) := by
  rcases lt32 h with h | ⟨j, hj, rfl⟩
  · rcases lt16 h with rfl | rfl | rfl | rfl | rfl | rfl | rfl | rfl | rfl | rfl | rfl | rfl | rfl | rfl | rfl | rfl <;> rfl
  · rcases lt16 hj with rfl | rfl | rfl | rfl | rfl | rfl | rfl | rfl | rfl | rfl | rfl | rfl | rfl | rfl | rfl | rfl <;> rfl
theorem vec_get {v : Nat → Int} {s : Int} (h0 : 0 ≤ s) (h1 : s < 16) : cget (vecV v).cells (0 + s.toNat * 1) = some (.int .u32 (v s.toNat)) := by
  rw [cget_eq, Nat.zero_add, Nat.mul_one]; exact vec_at v (by omega)
theorem rec_ctx_get {r : Rec} {s : Int} (h0 : 0 ≤ s) (h1 : s < 16) : cget (recV r).cells (2 + s.toNat * 1) = some (.int .u32 (r.ctx s.toNat)) := by
  rw [cget_eq, Nat.mul_one]; exact rec_ctx_at r (by omega)
theorem id_get {v : Nat → Int} {s : Int} (h0 : 0 ≤ s) (h1 : s < 32) : cget (idV v).cells (0 + s.toNat * 1) = some (.int .u8 (v s.toNat)) := by
  rw [cget_eq, Nat.zero_add, Nat.mul_one]; exact id_at v (by omega)
end Go.Mv
