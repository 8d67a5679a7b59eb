/- Plain lemmas on words of 32 bits: what shifting and turning tells, in the program and in the reference. No conditions. -/
import Derived.Test.YtkbpdnhbmceajaaPQx0
import Derived.Test.YtkbpdnhbmceajaaLmBase
namespace Go.Proofs.Ytkbpdnhbmceajaa.Lm
open Go.RowKit Go.Proofs.Ytkbpdnhbmceajaa.PQ Go.Proofs.YtkbpdnhbmceajaaW.PrintWords Go.Proofs.YtkbpdnhbmceajaaW.PrintLast Go.Proofs.YtkbpdnhbmceajaaW.PrintMore

theorem u32w (x : Int) : IntKind.u32.wrap x = x % 4294967296 := by simp [IntKind.wrap, IntKind.bits, IntKind.signed]
theorem wf32 {x : Int} (h : (Lit.int .u32 x).wf = true) : 0 ≤ x ∧ x < 4294967296 := by have := bounds_u32 h; omega
theorem bits_or_comm (k : IntKind) (x y : Int) : bits .or k x y = bits .or k y x := by unfold bits; simp only [BitVec.or_comm]
theorem wraps_u32 (n : Int) (h0 : 0 ≤ n) (h1 : n < 2 ^ 32) : IntKind.u32.wrap n = n := by rw [u32w]; omega

theorem pow_pos (n : Nat) : (0 : Int) < 2 ^ n := Int.pow_pos (by decide)
theorem pow_split {m : Nat} (h : m ≤ 32) : (2 : Int) ^ m * 2 ^ (32 - m) = 4294967296 := by
  rw [← Int.pow_add, show m + (32 - m) = 32 by omega]; rfl

theorem tmod32 (n : Int) : (0 ≤ Int.tmod n 32 ∧ Int.tmod n 32 = n % 32) ∨ (Int.tmod n 32 < 0 ∧ Int.tmod n 32 = n % 32 - 32) := by
  have h := Int.tmod_eq_emod (a := n) (b := 32)
  have hr := Int.emod_nonneg n (show (32 : Int) ≠ 0 by decide)
  have hr2 := Int.emod_lt_of_pos n (show (0 : Int) < 32 by decide)
  by_cases hc : 0 ≤ n ∨ (32 : Int) ∣ n
  · rw [if_pos hc] at h
    left; omega
  · rw [if_neg hc] at h
    right
    have : Int.natAbs 32 = 32 := rfl
    rw [this] at h
    omega
/-- A word turned to the lowest bit by m. -/
def rotF (x : Int) (m : Nat) : Int := x / 2 ^ m + x % 2 ^ m * 2 ^ (32 - m)
def leftF (x : Int) (m : Nat) : Int := x * 2 ^ m % 4294967296

/-- What is shifted out on the left. -/
theorem left_mod (x : Int) {m : Nat} (h : m ≤ 32) : leftF x (32 - m) = x % 2 ^ m * 2 ^ (32 - m) := by
  unfold leftF
  rw [← pow_split h]
  have hQ := pow_pos (32 - m)
  have := Int.mul_emod_mul_of_pos (a := 2 ^ (32 - m)) x (2 ^ m) hQ
  rw [Int.mul_comm x, Int.mul_comm (2 ^ m : Int), this, Int.mul_comm]
theorem div_lt {x : Int} (h1 : x < 4294967296) {m : Nat} (h : m ≤ 32) : x / 2 ^ m < 2 ^ (32 - m) := by
  refine Int.ediv_lt_of_lt_mul (pow_pos m) ?_
  rw [Int.mul_comm, pow_split h]; exact h1
theorem rotF_range {x : Int} (h0 : 0 ≤ x) (h1 : x < 4294967296) {m : Nat} (h : m ≤ 32) : 0 ≤ rotF x m ∧ rotF x m < 4294967296 := by
  unfold rotF
  have hP := pow_pos m
  have hQ := pow_pos (32 - m)
  have hd := div_lt h1 h
  have hd0 : 0 ≤ x / 2 ^ m := Int.ediv_nonneg h0 (Int.le_of_lt hP)
  have hm0 := Int.emod_nonneg x (Int.ne_of_gt hP)
  have hm1 := Int.emod_lt_of_pos x hP
  have hs := pow_split h
  have h3 : x % 2 ^ m * 2 ^ (32 - m) ≤ (2 ^ m - 1) * 2 ^ (32 - m) := Int.mul_le_mul_of_nonneg_right (by omega) (Int.le_of_lt hQ)
  rw [Int.sub_mul, hs, Int.one_mul] at h3
  have h4 : 0 ≤ x % 2 ^ m * 2 ^ (32 - m) := Int.mul_nonneg hm0 (Int.le_of_lt hQ)
  omega
theorem or_rot {x : Int} (h0 : 0 ≤ x) (h1 : x < 4294967296) {m : Nat} (h : m ≤ 32) : bits .or .u32 (x / 2 ^ m) (leftF x (32 - m)) = rotF x m := by
  have hP := pow_pos m
  have hQ := pow_pos (32 - m)
  have hd := div_lt h1 h
  have hd0 : 0 ≤ x / 2 ^ m := Int.ediv_nonneg h0 (Int.le_of_lt hP)
  have hl0 : 0 ≤ leftF x (32 - m) := Int.emod_nonneg _ (by decide)
  have hl1 : leftF x (32 - m) < 4294967296 := Int.emod_lt_of_pos _ (by decide)
  have hx1 : x / 2 ^ m < 2 ^ 32 := by
    have : x / 2 ^ m ≤ x := Int.ediv_le_self _ h0
    have : (2 : Int) ^ 32 = 4294967296 := rfl
    omega
  rw [bits_or_comm, bits_join .u32 32 (by decide) wraps_u32 (32 - m) _ _ hl0 (by rw [left_mod x h]; exact Int.mul_emod_left _ _) hl1 hd0 hd hx1, left_mod x h]
  unfold rotF
  omega
/-- One turn more. -/
theorem rot_one {x : Int} {m : Nat} (h : m < 32) : rotF x m / 2 + rotF x m % 2 * 2147483648 = rotF x (m + 1) := by
  unfold rotF
  have hP := pow_pos m
  have e1 : (2 : Int) ^ (32 - m) = 2 * 2 ^ (31 - m) := by rw [show 32 - m = (31 - m) + 1 by omega, Int.pow_succ, Int.mul_comm]
  have e2 : (2 : Int) ^ (m + 1) = 2 ^ m * 2 := Int.pow_succ 2 m
  have e3 : (2 : Int) ^ m * 2 ^ (31 - m) = 2147483648 := by rw [← Int.pow_add, show m + (31 - m) = 31 by omega]; rfl
  rw [e1, e2, show 32 - (m + 1) = 31 - m by omega]
  generalize (2 : Int) ^ m = P at *
  generalize (2 : Int) ^ (31 - m) = Q at *
  have hd : x / (P * 2) = x / P / 2 := (Int.ediv_ediv_of_nonneg (Int.le_of_lt hP)).symm
  have hmd : x % (P * 2) = x % P + P * (x / P % 2) := by
    have a1 := Int.emod_add_mul_ediv x P
    have a2 := Int.emod_add_mul_ediv x (P * 2)
    have a3 := Int.emod_add_mul_ediv (x / P) 2
    rw [hd, Int.mul_assoc] at a2
    have a4 : P * (x / P) = P * (x / P % 2) + P * (2 * (x / P / 2)) := by rw [← Int.mul_add, a3]
    omega
  rw [hd, hmd]
  have b1 : x % P * (2 * Q) = 2 * (x % P * Q) := by rw [← Int.mul_assoc, Int.mul_comm (x % P) 2, Int.mul_assoc]
  have b2 : (x % P + P * (x / P % 2)) * Q = x % P * Q + 2147483648 * (x / P % 2) := by
    rw [Int.add_mul, Int.mul_assoc P, Int.mul_comm (x / P % 2) Q, ← Int.mul_assoc P, e3]
  rw [b1, b2]
  omega

theorem rotF_zero (x : Int) : rotF x 0 = x := by
  unfold rotF
  simp
theorem rotF_back {x : Int} (h0 : 0 ≤ x) (h1 : x < 4294967296) {m : Nat} (h : m ≤ 32) : rotF (rotF x m) (32 - m) = x := by
  have hP := pow_pos m
  have hQ := pow_pos (32 - m)
  have hd := div_lt h1 h
  have hd0 : 0 ≤ x / 2 ^ m := Int.ediv_nonneg h0 (Int.le_of_lt hP)
  have hu : rotF x m / 2 ^ (32 - m) = x % 2 ^ m ∧ rotF x m % 2 ^ (32 - m) = x / 2 ^ m := (Int.ediv_emod_unique hQ).2 ⟨by unfold rotF; rw [Int.mul_comm (2 ^ (32 - m))], hd0, hd⟩
  show rotF x m / 2 ^ (32 - m) + rotF x m % 2 ^ (32 - m) * 2 ^ (32 - (32 - m)) = x
  rw [hu.1, hu.2, show 32 - (32 - m) = m by omega, Int.mul_comm]
  exact Int.emod_add_mul_ediv x (2 ^ m)

/-! the program -/
/-! the reference -/
end Go.Proofs.Ytkbpdnhbmceajaa.Lm
