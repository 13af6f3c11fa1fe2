import Derived.Test.YthagkkmbbncclaaDoorMvMore
namespace Go.Mv
open Go

/-- P1.1: a number's bytes. -/
def lebL (n : Nat) : List UInt8 := if h : n < 128 then [UInt8.ofNat n] else UInt8.ofNat (n % 128 + 128) :: lebL (n / 128)
  termination_by n
  decreasing_by omega

theorem lebL_small {n : Nat} (h : n < 128) : lebL n = [UInt8.ofNat n] := by rw [lebL, dif_pos h]
theorem lebL_big {n : Nat} (h : ¬ n < 128) : lebL n = UInt8.ofNat (n % 128 + 128) :: lebL (n / 128) := by rw [lebL, dif_neg h]
theorem lebL_pos (n : Nat) : 0 < (lebL n).length := by
  by_cases h : n < 128
  · rw [lebL_small h]; simp
  · rw [lebL_big h]; simp
theorem lebL_len : ∀ (k n : Nat), n < 128 ^ (k + 1) → (lebL n).length ≤ k + 1
  | 0, n, h => by rw [lebL_small (by simpa using h)]; simp
  | k + 1, n, h => by
    by_cases hn : n < 128
    · rw [lebL_small hn]; simp
    · rw [lebL_big hn]
      have := lebL_len k (n / 128) (by rw [Nat.div_lt_iff_lt_mul (by decide)]; rw [Nat.pow_succ] at h; exact h)
      simp; omega
theorem lebL_len64 {n : Nat} (h : n < 18446744073709551616) : (lebL n).length ≤ 10 := lebL_len 9 n (by omega)

theorem bcell_of {a : Int} {n : Nat} (h : a = n) (hn : n < 256) : Value.int .u8 a = bcell (UInt8.ofNat n) := by
  subst h; unfold bcell
  rw [UInt8.toNat_ofNat_of_lt' hn]
theorem leb_more (m : Nat) : Value.int .u8 (IntKind.u8.wrap (IntKind.u8.wrap ((m : Int).tmod 128) + 128)) = bcell (UInt8.ofNat (m % 128 + 128)) := by
  have h1 : ((m : Int).tmod 128) = ((m % 128 : Nat) : Int) := by rw [Int.tmod_eq_emod_of_nonneg (by omega)]; simp
  rw [h1]
  refine bcell_of ?_ (by omega)
  have : m % 128 < 128 := Nat.mod_lt _ (by decide)
  simp only [u8_wrap]
  omega
theorem leb_last {m : Nat} (h : m < 128) : Value.int .u8 (IntKind.u8.wrap (m : Int)) = bcell (UInt8.ofNat m) := by
  refine bcell_of ?_ (by omega)
  simp only [u8_wrap]
  omega
theorem leb_shr (m : Nat) : Value.int .u64 ((m : Int).fdiv (2 ^ min (Int.toNat 7) (IntKind.u64.bits))) = .int .u64 ((m / 128 : Nat) : Int) := by
  congr 1
  show (m : Int).fdiv (2 ^ 7) = _
  rw [Int.fdiv_eq_ediv_of_nonneg _ (by decide)]
  norm_cast
end Go.Mv
