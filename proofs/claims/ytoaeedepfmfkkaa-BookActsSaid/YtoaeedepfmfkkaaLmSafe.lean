/- What the functions of safe and of its reference answer, in plain Lean. No conditions. -/
import Derived.Test.YtoaeedepfmfkkaaPBx1
import Derived.Test.YtoaeedepfmfkkaaPBx5
import Derived.Test.YtoaeedepfmfkkaaPBx9
import Derived.Test.YtoaeedepfmfkkaaLmBase
namespace Go.Proofs.Ytoaeedepfmfkkaa.Lm
open Go.RowKit Go.Proofs.YtoaeedepfmfkkaaW.PrintWords Go.Proofs.Ytoaeedepfmfkkaa.PB

theorem add_ok {a b : Int} (ha : 0 ≤ a ∧ a < 18446744073709551616) (hb : 0 ≤ b ∧ b < 18446744073709551616) : safe_Add.f a b = some (if a + b < 9223372036854775808 then (a + b, true) else (0, false)) := by
  unfold safe_Add.f
  rw [if_pos ⟨ha.1, ha.2, hb.1, hb.2⟩]
  split <;> rfl
theorem total_l : ∀ (d k : Nat) (s : Int) (l : List Int) (n : Nat), U64 l → n + d = l.length → d < k → 0 ≤ s → s < 9223372036854775808 → l.length < 9223372036854775807 →
    safe_Total.l0 k s l (l.length : Int) (n : Int) = some (if s + (l.drop n).sum < 9223372036854775808 then (s + (l.drop n).sum, true) else (0, false)) := by
  intro d
  induction d with
  | zero =>
    intro k s l n hl hn hk h0 h1 hm
    obtain ⟨k, rfl⟩ : ∃ m, k = m + 1 := ⟨k - 1, by omega⟩
    simp only [safe_Total.l0]
    rw [if_neg (by omega), List.drop_eq_nil_of_le (by omega)]
    simp only [List.sum_nil, Int.add_zero]
    rw [if_pos h1]
  | succ d ih =>
    intro k s l n hl hn hk h0 h1 hm
    obtain ⟨k, rfl⟩ : ∃ m, k = m + 1 := ⟨k - 1, by omega⟩
    simp only [safe_Total.l0]
    have hr := hl.rd (n : Int)
    rw [if_pos (by omega), if_pos (by omega), if_pos (by omega), add_ok ⟨h0, by omega⟩ hr, sum_drop_step (by omega)]
    simp only [Option.bind_some]
    have hs := sum_nonneg (hl.drop (n + 1))
    by_cases c : s + rd l (n : Int) < 9223372036854775808
    · rw [if_pos c]
      simp only [if_true]
      rw [show wrap64 ((n : Int) + 1) = ((n + 1 : Nat) : Int) by rw [w64_id (by omega) (by omega)]; omega]
      rw [ih k _ l (n + 1) hl (by omega) (by omega) (by omega) c hm, Int.add_assoc]
    · rw [if_neg c, if_neg (show ¬ (s + (rd l (n : Int) + (l.drop (n + 1)).sum) < 9223372036854775808) by omega)]
      simp
theorem total_ok (k : Nat) (l : List Int) (hl : U64 l) (hk : l.length < k) (hm : l.length < 9223372036854775807) :
    safe_Total.f k l = some (if l.sum < 9223372036854775808 then (l.sum, true) else (0, false)) := by
  unfold safe_Total.f
  have := total_l l.length k 0 l 0 hl (by omega) hk (by omega) (by omega) hm
  simpa using this

theorem radd_ok {a b : Int} (ha : 0 ≤ a ∧ a < 18446744073709551616) (hb : 0 ≤ b ∧ b < 18446744073709551616) : drawlotref09_Add.f a b = some (if a + b < 9223372036854775808 then (a + b, true) else (0, false)) := by
  unfold drawlotref09_Add.f
  by_cases h : a ≥ 9223372036854775808
  · rw [if_pos h, if_neg (by omega)]
  · rw [if_neg h, u64w_id (by omega) (by omega)]
    by_cases g : b ≥ 9223372036854775808 - a
    · rw [if_pos g, if_neg (by omega)]
    · rw [if_neg g, if_pos (by omega), u64w_id (by omega) (by omega)]
theorem rtotal_l : ∀ (d k : Nat) (s : Int) (l : List Int) (n : Nat), U64 l → n + d = l.length → d < k → 0 ≤ s → s < 9223372036854775808 → l.length < 9223372036854775807 →
    drawlotref09_Total.l0 k l s (n : Int) = some (if s + (l.drop n).sum < 9223372036854775808 then (s + (l.drop n).sum, true) else (0, false)) := by
  intro d
  induction d with
  | zero =>
    intro k s l n hl hn hk h0 h1 hm
    obtain ⟨k, rfl⟩ : ∃ m, k = m + 1 := ⟨k - 1, by omega⟩
    simp only [drawlotref09_Total.l0]
    rw [if_neg (by omega), List.drop_eq_nil_of_le (by omega)]
    simp only [List.sum_nil, Int.add_zero]
    rw [if_pos h1]
  | succ d ih =>
    intro k s l n hl hn hk h0 h1 hm
    obtain ⟨k, rfl⟩ : ∃ m, k = m + 1 := ⟨k - 1, by omega⟩
    simp only [drawlotref09_Total.l0]
    have hr := hl.rd (n : Int)
    rw [if_pos (by omega), if_pos (by omega), radd_ok ⟨h0, by omega⟩ hr, sum_drop_step (by omega)]
    simp only [Option.bind_some]
    have hs := sum_nonneg (hl.drop (n + 1))
    by_cases c : s + rd l (n : Int) < 9223372036854775808
    · rw [if_pos c]
      simp only [if_true]
      rw [show wrap64 ((n : Int) + 1) = ((n + 1 : Nat) : Int) by rw [w64_id (by omega) (by omega)]; omega]
      rw [ih k _ l (n + 1) hl (by omega) (by omega) (by omega) c hm, Int.add_assoc]
    · rw [if_neg c, if_neg (show ¬ (s + (rd l (n : Int) + (l.drop (n + 1)).sum) < 9223372036854775808) by omega)]
      simp
theorem rtotal_ok (k : Nat) (l : List Int) (hl : U64 l) (hk : l.length < k) (hm : l.length < 9223372036854775807) :
    drawlotref09_Total.f k l = some (if l.sum < 9223372036854775808 then (l.sum, true) else (0, false)) := by
  unfold drawlotref09_Total.f
  have := rtotal_l l.length k 0 l 0 hl (by omega) hk (by omega) (by omega) hm
  simpa using this
theorem same_l : ∀ (d k : Nat) (a b : List Int) (n : Nat), n + d = a.length → a.length = b.length → d < k → a.length < 9223372036854775807 →
    drawlotref09_Same.l0 k a b (n : Int) = some (decide (a.drop n = b.drop n)) := by
  intro d
  induction d with
  | zero =>
    intro k a b n hn hab hk hm
    obtain ⟨k, rfl⟩ : ∃ m, k = m + 1 := ⟨k - 1, by omega⟩
    simp only [drawlotref09_Same.l0]
    rw [if_neg (by omega), List.drop_eq_nil_of_le (by omega), List.drop_eq_nil_of_le (by omega)]
    simp
  | succ d ih =>
    intro k a b n hn hab hk hm
    obtain ⟨k, rfl⟩ : ∃ m, k = m + 1 := ⟨k - 1, by omega⟩
    simp only [drawlotref09_Same.l0]
    rw [if_pos (by omega), if_pos (by omega), if_pos (by omega), drop_step (l := a) (by omega), drop_step (l := b) (by omega)]
    by_cases c : rd a (n : Int) = rd b (n : Int)
    · rw [if_pos c, show wrap64 ((n : Int) + 1) = ((n + 1 : Nat) : Int) by rw [w64_id (by omega) (by omega)]; omega]
      rw [ih k a b (n + 1) (by omega) hab (by omega) hm]
      simp [c]
    · rw [if_neg c]
      simp [c]
theorem same_ok (k : Nat) (a b : List Int) (hk : a.length < k) (hm : a.length < 9223372036854775807) : drawlotref09_Same.f k a b = some (decide (a = b)) := by
  unfold drawlotref09_Same.f
  by_cases h : a.length = b.length
  · rw [if_pos (by omega)]
    have := same_l a.length k a b 0 (by omega) h hk hm
    simpa using this
  · rw [if_neg (by omega)]
    have : ¬ a = b := fun e => h (by rw [e])
    simp [this]
end Go.Proofs.Ytoaeedepfmfkkaa.Lm
