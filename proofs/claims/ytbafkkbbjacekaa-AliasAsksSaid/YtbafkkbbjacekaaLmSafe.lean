/- What the functions of safe and of its reference answer, in plain Lean. No conditions. -/
import Derived.Test.YtbafkkbbjacekaaPBx2
import Derived.Test.YtbafkkbbjacekaaPBx6
import Derived.Test.YtbafkkbbjacekaaPBx8
import Derived.Test.YtbafkkbbjacekaaLmBase
namespace Go.Proofs.Ytbafkkbbjacekaa.Lm
open Go.RowKit Go.Proofs.YtbafkkbbjacekaaW.PrintWords Go.Proofs.Ytbafkkbbjacekaa.PB

theorem add_ok {a b : Int} (ha : 0 ≤ a ∧ a < 18446744073709551616) (hb : 0 ≤ b ∧ b < 18446744073709551616) : safe_Add.f a b = some (if a + b < 9223372036854775808 then (a + b, true) else (0, false)) := by
  unfold safe_Add.f
  rw [if_pos ⟨ha.1, ha.2, hb.1, hb.2⟩]
  split <;> rfl
theorem told_ok (n more : Int) : safe_told.f n more = some (if more = 0 ∧ n < 9223372036854775808 then (n, true) else (0, false)) := by
  unfold safe_told.f safe_Fits.f
  by_cases h : more = 0
  · simp only [h, if_true, Option.bind_some, decide_eq_true_eq, true_and]; split <;> rfl
  · simp [h]
theorem mul64_ok {a b : Int} (ha : 0 ≤ a ∧ a < 18446744073709551616) (hb : 0 ≤ b ∧ b < 18446744073709551616) : bits_Mul64.f a b = some (a * b / 18446744073709551616, a * b % 18446744073709551616) := by
  obtain ⟨a0, a1⟩ := ha
  obtain ⟨b0, b1⟩ := hb
  unfold bits_Mul64.f
  have hx : a = a / 4294967296 * 4294967296 + a % 4294967296 := by omega
  have hy : b = b / 4294967296 * 4294967296 + b % 4294967296 := by omega
  rw [and32 a a0 a1, and32 b b0 b1]
  have p1 : 0 ≤ a / 4294967296 ∧ a / 4294967296 ≤ 4294967295 := by omega
  have q1 : 0 ≤ a % 4294967296 ∧ a % 4294967296 ≤ 4294967295 := by omega
  have p2 : 0 ≤ b / 4294967296 ∧ b / 4294967296 ≤ 4294967295 := by omega
  have q2 : 0 ≤ b % 4294967296 ∧ b % 4294967296 ≤ 4294967295 := by omega
  have hab : a * b = (a / 4294967296 * (b / 4294967296)) * 18446744073709551616 + (a / 4294967296 * (b % 4294967296) + a % 4294967296 * (b / 4294967296)) * 4294967296 + a % 4294967296 * (b % 4294967296) := by
    conv => lhs; rw [hx, hy]
    generalize a / 4294967296 = x1
    generalize a % 4294967296 = x0
    generalize b / 4294967296 = y1
    generalize b % 4294967296 = y0
    rw [Int.add_mul, Int.mul_add, Int.mul_add]
    have e1 : x1 * 4294967296 * (y1 * 4294967296) = x1 * y1 * 18446744073709551616 := by rw [show (18446744073709551616 : Int) = 4294967296 * 4294967296 by decide]; ac_rfl
    have e2 : x1 * 4294967296 * y0 = x1 * y0 * 4294967296 := by ac_rfl
    have e3 : x0 * (y1 * 4294967296) = x0 * y1 * 4294967296 := by ac_rfl
    rw [e1, e2, e3]; omega
  rw [hab]
  generalize a / 4294967296 = x1 at *
  generalize a % 4294967296 = x0 at *
  generalize b / 4294967296 = y1 at *
  generalize b % 4294967296 = y0 at *
  have B : ∀ x y : Int, 0 ≤ x ∧ x ≤ 4294967295 → 0 ≤ y ∧ y ≤ 4294967295 → 0 ≤ x * y ∧ x * y ≤ 18446744065119617025 := fun x y hx hy =>
    ⟨Int.mul_nonneg hx.1 hy.1, by have := Int.mul_le_mul hx.2 hy.2 hy.1 (by decide); omega⟩
  have h11 := B x1 y1 p1 p2
  have h10 := B x1 y0 p1 q2
  have h01 := B x0 y1 q1 p2
  have h00 := B x0 y0 q1 q2
  clear hab hx hy B p1 p2 q1 q2
  generalize x1 * y1 = A at *
  generalize x1 * y0 = C at *
  generalize x0 * y1 = D at *
  generalize x0 * y0 = E at *
  simp only [u64w]
  rw [Int.emod_eq_of_lt (a := E) h00.1 (by omega), Int.emod_eq_of_lt (a := C) h10.1 (by omega), Int.emod_eq_of_lt (a := A) h11.1 (by omega), Int.emod_eq_of_lt (a := D) h01.1 (by omega)]
  rw [Int.emod_eq_of_lt (a := C + E / 4294967296) (by omega) (by omega), and32 _ (by omega) (by omega)]
  rw [Int.emod_eq_of_lt (a := (C + E / 4294967296) % 4294967296 + D) (by omega) (by omega)]
  rw [Int.emod_eq_of_lt (a := A + (C + E / 4294967296) / 4294967296) (by omega) (by omega)]
  have e : A * 18446744073709551616 + (C + D) * 4294967296 + E = (A + (C + E / 4294967296) / 4294967296 + ((C + E / 4294967296) % 4294967296 + D) / 4294967296) * 18446744073709551616 + ((((C + E / 4294967296) % 4294967296 + D) % 4294967296) * 4294967296 + E % 4294967296) := by omega
  congr 2
  · rw [e]; omega
theorem mul_ok {a b : Int} (ha : 0 ≤ a ∧ a < 18446744073709551616) (hb : 0 ≤ b ∧ b < 18446744073709551616) : safe_Mul.f a b = some (if a * b < 9223372036854775808 then (a * b, true) else (0, false)) := by
  unfold safe_Mul.f
  rw [mul64_ok ha hb]
  simp only [Option.bind_some, told_ok]
  have hp : 0 ≤ a * b := Int.mul_nonneg ha.1 hb.1
  generalize a * b = p at *
  by_cases h : p < 9223372036854775808
  · have e1 : p / 18446744073709551616 = 0 := by omega
    have e2 : p % 18446744073709551616 = p := by omega
    rw [e1, e2, if_pos h, if_pos ⟨rfl, h⟩]
  · rw [if_neg h]
    by_cases g : p / 18446744073709551616 = 0
    · rw [if_neg (by omega)]
    · rw [if_neg (fun z => g z.1)]
theorem total_l : ∀ (d k : Nat) (s : Int) (l : List Int) (n : Nat), U64 l → n + d = l.length → d < k → 0 ≤ s → s < 9223372036854775808 → l.length < 9223372036854775807 →
    safe_Total.l0 k s l (l.length : Int) (n : Int) = some (if s + (l.drop n).sum < 9223372036854775808 then (s + (l.drop n).sum, true) else (0, false)) := by
  intro d
  induction d with
  | zero =>
    intro k s l n hl hn hk h0 h1 hm
    obtain ⟨k, rfl⟩ : ∃ m, k = m + 1 := ⟨k - 1, by omega⟩
    simp only [safe_Total.l0]
    rw [if_neg (by omega), List.drop_eq_nil_of_le (by omega)]
    simp only [List.sum_nil, Int.add_zero]
    rw [if_pos h1]
  | succ d ih =>
    intro k s l n hl hn hk h0 h1 hm
    obtain ⟨k, rfl⟩ : ∃ m, k = m + 1 := ⟨k - 1, by omega⟩
    simp only [safe_Total.l0]
    have hr := hl.rd (n : Int)
    rw [if_pos (by omega), if_pos (by omega), if_pos (by omega), add_ok ⟨h0, by omega⟩ hr, sum_drop_step (by omega)]
    simp only [Option.bind_some]
    have hs := sum_nonneg (hl.drop (n + 1))
    by_cases c : s + rd l (n : Int) < 9223372036854775808
    · rw [if_pos c]
      simp only [if_true]
      rw [show wrap64 ((n : Int) + 1) = ((n + 1 : Nat) : Int) by rw [w64_id (by omega) (by omega)]; omega]
      rw [ih k _ l (n + 1) hl (by omega) (by omega) (by omega) c hm, Int.add_assoc]
    · rw [if_neg c, if_neg (show ¬ (s + (rd l (n : Int) + (l.drop (n + 1)).sum) < 9223372036854775808) by omega)]
      simp
theorem total_ok (k : Nat) (l : List Int) (hl : U64 l) (hk : l.length < k) (hm : l.length < 9223372036854775807) :
    safe_Total.f k l = some (if l.sum < 9223372036854775808 then (l.sum, true) else (0, false)) := by
  unfold safe_Total.f
  have := total_l l.length k 0 l 0 hl (by omega) hk (by omega) (by omega) hm
  simpa using this

theorem rmul_ok (k : Nat) (hk : 0 < k) {a b : Int} (ha : 0 ≤ a ∧ a < 18446744073709551616) (hb : 0 ≤ b ∧ b < 18446744073709551616) : drawlotref09_Mul.f k a b = some (if a * b < 9223372036854775808 then (a * b, true) else (0, false)) := by
  obtain ⟨k, rfl⟩ : ∃ m, k = m + 1 := ⟨k - 1, by omega⟩
  unfold drawlotref09_Mul.f
  simp only [drawlotref09_Mul.j0]
  by_cases h : a = 0
  · subst h
    simp
  · rw [if_neg h]
    by_cases g : b = 0
    · subst g
      simp
    · have hbp : 0 < b := by omega
      rw [if_neg (by simpa using g), if_neg g]
      have ht : Int.tdiv (9223372036854775807 : Int) b = 9223372036854775807 / b := Int.tdiv_eq_ediv_of_nonneg (by decide)
      have hq0 : 0 ≤ 9223372036854775807 / b := Int.ediv_nonneg (by decide) (by omega)
      have hq1 : 9223372036854775807 / b ≤ 9223372036854775807 := Int.ediv_le_self _ (by decide)
      rw [ht, u64w_id hq0 (by omega)]
      have key : a ≤ 9223372036854775807 / b ↔ a * b ≤ 9223372036854775807 := Int.le_ediv_iff_mul_le hbp
      have hp : 0 ≤ a * b := Int.mul_nonneg ha.1 hb.1
      by_cases c : a > 9223372036854775807 / b
      · rw [if_pos c, if_neg (by omega)]
      · rw [if_neg c, if_pos (by omega), u64w_id hp (by omega)]
end Go.Proofs.Ytbafkkbbjacekaa.Lm
