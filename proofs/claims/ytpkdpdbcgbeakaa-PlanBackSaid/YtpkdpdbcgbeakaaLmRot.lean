/- Plain lemmas on words of 32 bits: what shifting to the right and turning tells, in the program and in the reference. No conditions. -/
import Derived.Test.YtpkdpdbcgbeakaaPCx1
import Derived.Test.YtpkdpdbcgbeakaaPCx2
import Derived.Test.YtpkdpdbcgbeakaaPCx3
import Derived.Test.YtpkdpdbcgbeakaaLmBase
namespace Go.Proofs.Ytpkdpdbcgbeakaa.Lm
open Go.RowKit Go.Proofs.Ytpkdpdbcgbeakaa.PC Go.Proofs.YtpkdpdbcgbeakaaW.PrintWords Go.Proofs.YtpkdpdbcgbeakaaW.PrintLast Go.Proofs.YtpkdpdbcgbeakaaW.PrintMore

theorem u32w (x : Int) : IntKind.u32.wrap x = x % 4294967296 := by simp [IntKind.wrap, IntKind.bits, IntKind.signed]
theorem wf32 {x : Int} (h : (Lit.int .u32 x).wf = true) : 0 ≤ x ∧ x < 4294967296 := by have := bounds_u32 h; omega
theorem bits_or_comm (k : IntKind) (x y : Int) : bits .or k x y = bits .or k y x := by unfold bits; simp only [BitVec.or_comm]
theorem wraps_u32 (n : Int) (h0 : 0 ≤ n) (h1 : n < 2 ^ 32) : IntKind.u32.wrap n = n := by rw [u32w]; omega

theorem pow_pos (n : Nat) : (0 : Int) < 2 ^ n := Int.pow_pos (by decide)
theorem pow_split {m : Nat} (h : m ≤ 32) : (2 : Int) ^ m * 2 ^ (32 - m) = 4294967296 := by
  rw [← Int.pow_add, show m + (32 - m) = 32 by omega]; rfl

theorem tmod32 (n : Int) : (0 ≤ Int.tmod n 32 ∧ Int.tmod n 32 = n % 32) ∨ (Int.tmod n 32 < 0 ∧ Int.tmod n 32 = n % 32 - 32) := by
  have h := Int.tmod_eq_emod (a := n) (b := 32)
  have hr := Int.emod_nonneg n (show (32 : Int) ≠ 0 by decide)
  have hr2 := Int.emod_lt_of_pos n (show (0 : Int) < 32 by decide)
  by_cases hc : 0 ≤ n ∨ (32 : Int) ∣ n
  · rw [if_pos hc] at h
    left; omega
  · rw [if_neg hc] at h
    right
    have : Int.natAbs 32 = 32 := rfl
    rw [this] at h
    omega
/-- A word turned to the lowest bit by m. -/
def rotF (x : Int) (m : Nat) : Int := x / 2 ^ m + x % 2 ^ m * 2 ^ (32 - m)
def leftF (x : Int) (m : Nat) : Int := x * 2 ^ m % 4294967296

/-- What is shifted out on the left. -/
theorem left_mod (x : Int) {m : Nat} (h : m ≤ 32) : leftF x (32 - m) = x % 2 ^ m * 2 ^ (32 - m) := by
  unfold leftF
  rw [← pow_split h]
  have hQ := pow_pos (32 - m)
  have := Int.mul_emod_mul_of_pos (a := 2 ^ (32 - m)) x (2 ^ m) hQ
  rw [Int.mul_comm x, Int.mul_comm (2 ^ m : Int), this, Int.mul_comm]
theorem div_lt {x : Int} (h1 : x < 4294967296) {m : Nat} (h : m ≤ 32) : x / 2 ^ m < 2 ^ (32 - m) := by
  refine Int.ediv_lt_of_lt_mul (pow_pos m) ?_
  rw [Int.mul_comm, pow_split h]; exact h1
theorem rotF_range {x : Int} (h0 : 0 ≤ x) (h1 : x < 4294967296) {m : Nat} (h : m ≤ 32) : 0 ≤ rotF x m ∧ rotF x m < 4294967296 := by
  unfold rotF
  have hP := pow_pos m
  have hQ := pow_pos (32 - m)
  have hd := div_lt h1 h
  have hd0 : 0 ≤ x / 2 ^ m := Int.ediv_nonneg h0 (Int.le_of_lt hP)
  have hm0 := Int.emod_nonneg x (Int.ne_of_gt hP)
  have hm1 := Int.emod_lt_of_pos x hP
  have hs := pow_split h
  have h3 : x % 2 ^ m * 2 ^ (32 - m) ≤ (2 ^ m - 1) * 2 ^ (32 - m) := Int.mul_le_mul_of_nonneg_right (by omega) (Int.le_of_lt hQ)
  rw [Int.sub_mul, hs, Int.one_mul] at h3
  have h4 : 0 ≤ x % 2 ^ m * 2 ^ (32 - m) := Int.mul_nonneg hm0 (Int.le_of_lt hQ)
  omega
theorem or_rot {x : Int} (h0 : 0 ≤ x) (h1 : x < 4294967296) {m : Nat} (h : m ≤ 32) : bits .or .u32 (x / 2 ^ m) (leftF x (32 - m)) = rotF x m := by
  have hP := pow_pos m
  have hQ := pow_pos (32 - m)
  have hd := div_lt h1 h
  have hd0 : 0 ≤ x / 2 ^ m := Int.ediv_nonneg h0 (Int.le_of_lt hP)
  have hl0 : 0 ≤ leftF x (32 - m) := Int.emod_nonneg _ (by decide)
  have hl1 : leftF x (32 - m) < 4294967296 := Int.emod_lt_of_pos _ (by decide)
  have hx1 : x / 2 ^ m < 2 ^ 32 := by
    have : x / 2 ^ m ≤ x := Int.ediv_le_self _ h0
    have : (2 : Int) ^ 32 = 4294967296 := rfl
    omega
  rw [bits_or_comm, bits_join .u32 32 (by decide) wraps_u32 (32 - m) _ _ hl0 (by rw [left_mod x h]; exact Int.mul_emod_left _ _) hl1 hd0 hd hx1, left_mod x h]
  unfold rotF
  omega
/-- One turn more. -/
theorem rot_one {x : Int} {m : Nat} (h : m < 32) : rotF x m / 2 + rotF x m % 2 * 2147483648 = rotF x (m + 1) := by
  unfold rotF
  have hP := pow_pos m
  have e1 : (2 : Int) ^ (32 - m) = 2 * 2 ^ (31 - m) := by rw [show 32 - m = (31 - m) + 1 by omega, Int.pow_succ, Int.mul_comm]
  have e2 : (2 : Int) ^ (m + 1) = 2 ^ m * 2 := Int.pow_succ 2 m
  have e3 : (2 : Int) ^ m * 2 ^ (31 - m) = 2147483648 := by rw [← Int.pow_add, show m + (31 - m) = 31 by omega]; rfl
  rw [e1, e2, show 32 - (m + 1) = 31 - m by omega]
  generalize (2 : Int) ^ m = P at *
  generalize (2 : Int) ^ (31 - m) = Q at *
  have hd : x / (P * 2) = x / P / 2 := (Int.ediv_ediv_of_nonneg (Int.le_of_lt hP)).symm
  have hmd : x % (P * 2) = x % P + P * (x / P % 2) := by
    have a1 := Int.emod_add_mul_ediv x P
    have a2 := Int.emod_add_mul_ediv x (P * 2)
    have a3 := Int.emod_add_mul_ediv (x / P) 2
    rw [hd, Int.mul_assoc] at a2
    have a4 : P * (x / P) = P * (x / P % 2) + P * (2 * (x / P / 2)) := by rw [← Int.mul_add, a3]
    omega
  rw [hd, hmd]
  have b1 : x % P * (2 * Q) = 2 * (x % P * Q) := by rw [← Int.mul_assoc, Int.mul_comm (x % P) 2, Int.mul_assoc]
  have b2 : (x % P + P * (x / P % 2)) * Q = x % P * Q + 2147483648 * (x / P % 2) := by
    rw [Int.add_mul, Int.mul_assoc P, Int.mul_comm (x / P % 2) Q, ← Int.mul_assoc P, e3]
  rw [b1, b2]
  omega

theorem rotF_zero (x : Int) : rotF x 0 = x := by
  unfold rotF
  simp
theorem rotF_back {x : Int} (h0 : 0 ≤ x) (h1 : x < 4294967296) {m : Nat} (h : m ≤ 32) : rotF (rotF x m) (32 - m) = x := by
  have hP := pow_pos m
  have hQ := pow_pos (32 - m)
  have hd := div_lt h1 h
  have hd0 : 0 ≤ x / 2 ^ m := Int.ediv_nonneg h0 (Int.le_of_lt hP)
  have hu : rotF x m / 2 ^ (32 - m) = x % 2 ^ m ∧ rotF x m % 2 ^ (32 - m) = x / 2 ^ m := (Int.ediv_emod_unique hQ).2 ⟨by unfold rotF; rw [Int.mul_comm (2 ^ (32 - m))], hd0, hd⟩
  show rotF x m / 2 ^ (32 - m) + rotF x m % 2 ^ (32 - m) * 2 ^ (32 - (32 - m)) = x
  rw [hu.1, hu.2, show 32 - (32 - m) = m by omega, Int.mul_comm]
  exact Int.emod_add_mul_ediv x (2 ^ m)

/-! the program -/
theorem right_ok {x n : Int} (hn0 : -9223372036854775808 ≤ n) (hn1 : n < 9223372036854775808) : word_Right.f x n = some (x / 2 ^ (min n.toNat 32)) := by
  unfold word_Right.f
  have e : IntKind.u64.wrap (mx n 0) = (n.toNat : Int) := by rw [u64w]; unfold mx; split <;> omega
  rw [e, if_pos (by omega)]
  rfl
theorem rotate_ok {x n : Int} (h0 : 0 ≤ x) (h1 : x < 4294967296) : word_Rotate.f x n = some (rotF x (n % 32).toNat) := by
  unfold word_Rotate.f
  have e : Int.tmod (IntKind.u64.wrap n) 32 = n % 32 := by
    rw [u64w, Int.tmod_eq_emod_of_nonneg (by omega)]; omega
  have e2 : IntKind.u64.wrap (32 - n % 32) = 32 - n % 32 := by rw [u64w]; omega
  rw [e, e2, if_pos (by omega), if_pos (by omega)]
  have hm : (n % 32).toNat ≤ 32 := by omega
  have e3 : shr .u32 x (n % 32) = x / 2 ^ (n % 32).toNat := by
    unfold shr; rw [Nat.min_eq_left (by exact hm)]
  have e4 : shl .u32 x (32 - n % 32) = leftF x (32 - (n % 32).toNat) := by
    unfold shl leftF; rw [u32w, show (32 - n % 32).toNat = 32 - (n % 32).toNat by omega, Nat.min_eq_left (show 32 - (n % 32).toNat ≤ IntKind.u32.bits by show _ ≤ 32; omega)]
  rw [e3, e4]
  exact congrArg some (or_rot h0 h1 hm)

/-! the reference -/
theorem r01right_loop (n : Int) (hn1 : n < 9223372036854775808) : ∀ (d k : Nat) (x i : Int), d < k → 0 ≤ i → n = i + d → 0 ≤ x → x < 4294967296 → drawlotref01_Right.l0 k x n i = some (x / 2 ^ d)
  | 0, k, x, i, hk, hi, hd, h0, h1 => by
    obtain ⟨k, rfl⟩ : ∃ m, k = m + 1 := ⟨k - 1, by omega⟩
    simp only [drawlotref01_Right.l0]
    rw [if_neg (by omega)]
    simp
  | d + 1, k, x, i, hk, hi, hd, h0, h1 => by
    obtain ⟨k, rfl⟩ : ∃ m, k = m + 1 := ⟨k - 1, by omega⟩
    simp only [drawlotref01_Right.l0]
    have e : Int.tdiv x 2 % 4294967296 = x / 2 := by rw [Int.tdiv_eq_ediv_of_nonneg h0]; omega
    rw [if_pos (by omega), w64_id (x := i + 1) (by omega) (by omega), e, r01right_loop n hn1 d k _ (i + 1) (by omega) (by omega) (by omega) (by omega) (by omega)]
    rw [Int.ediv_ediv_of_nonneg (by decide), Int.pow_succ, Int.mul_comm]
theorem r01right_ok {k : Nat} (hk : 33 < k) {x n : Int} (h0 : 0 ≤ x) (h1 : x < 4294967296) (hn0 : -9223372036854775808 ≤ n) (hn1 : n < 9223372036854775808) : drawlotref01_Right.f k x n = some (x / 2 ^ (min n.toNat 32)) := by
  unfold drawlotref01_Right.f
  by_cases h : n > 31
  · rw [if_pos h, Nat.min_eq_right (by omega), show (2 : Int) ^ 32 = 4294967296 from rfl, Int.ediv_eq_zero_of_lt h0 h1]
  · rw [if_neg h, Nat.min_eq_left (by omega)]
    by_cases hn : 0 ≤ n
    · exact r01right_loop n hn1 n.toNat k x 0 (by omega) (by omega) (by omega) h0 h1
    · obtain ⟨k, rfl⟩ : ∃ m, k = m + 1 := ⟨k - 1, by omega⟩
      simp only [drawlotref01_Right.l0]
      rw [if_neg (by omega), show n.toNat = 0 by omega]
      simp
theorem r01rotate_loop (x : Int) (h0 : 0 ≤ x) (h1 : x < 4294967296) (n : Nat) (hn : n < 32) : ∀ (d k i : Nat), d < k → n = i + d → drawlotref01_Rotate.l0 k (rotF x i) n i = some (rotF x n)
  | 0, k, i, hk, hd => by
    obtain ⟨k, rfl⟩ : ∃ m, k = m + 1 := ⟨k - 1, by omega⟩
    simp only [drawlotref01_Rotate.l0]
    rw [if_neg (by omega), show i = n by omega]
  | d + 1, k, i, hk, hd => by
    obtain ⟨k, rfl⟩ : ∃ m, k = m + 1 := ⟨k - 1, by omega⟩
    simp only [drawlotref01_Rotate.l0]
    obtain ⟨a0, a1⟩ := rotF_range h0 h1 (m := i) (by omega)
    obtain ⟨c0, c1⟩ := rotF_range h0 h1 (m := i + 1) (by omega)
    have e := rot_one (x := x) (m := i) (by omega)
    have e2 : (Int.tdiv (rotF x i) 2 % 4294967296 + Int.tmod (rotF x i) 2 * 2147483648 % 4294967296) % 4294967296 = rotF x (i + 1) := by
      rw [Int.tdiv_eq_ediv_of_nonneg a0, Int.tmod_eq_emod_of_nonneg a0]; omega
    rw [if_pos (by omega), e2, w64_id (by omega) (by omega)]
    exact r01rotate_loop x h0 h1 n hn d k (i + 1) (by omega) (by omega)
theorem r01rotate_ok {k : Nat} (hk : 40 < k) {x n : Int} (h0 : 0 ≤ x) (h1 : x < 4294967296) (_hn0 : -9223372036854775808 ≤ n) (_hn1 : n < 9223372036854775808) : drawlotref01_Rotate.f k x n = some (rotF x (n % 32).toNat) := by
  unfold drawlotref01_Rotate.f
  have hl : ∀ (m : Int), m = n % 32 → drawlotref01_Rotate.j0 k x m = some (rotF x (n % 32).toNat) := by
    rintro m rfl
    obtain ⟨k, rfl⟩ : ∃ m, k = m + 1 := ⟨k - 1, by omega⟩
    simp only [drawlotref01_Rotate.j0]
    have := r01rotate_loop x h0 h1 (n % 32).toNat (by omega) (n % 32).toNat k 0 (by omega) (by omega)
    rw [rotF_zero, show (((n % 32).toNat : Nat) : Int) = n % 32 by omega] at this
    exact this
  have ht := tmod32 n
  by_cases h : Int.tmod n 32 < 0
  · rw [if_pos h]
    refine hl _ ?_
    rw [w64_id (by omega) (by omega)]
    omega
  · rw [if_neg h]
    refine hl _ ?_
    omega
end Go.Proofs.Ytpkdpdbcgbeakaa.Lm
