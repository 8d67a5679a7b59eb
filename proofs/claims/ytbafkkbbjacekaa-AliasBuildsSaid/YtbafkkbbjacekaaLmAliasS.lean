/- Whether the reference of alias tells tables the same, in plain Lean. No conditions. -/
import Derived.Test.YtbafkkbbjacekaaPBx4
import Derived.Test.YtbafkkbbjacekaaLmAlias
namespace Go.Proofs.Ytbafkkbbjacekaa.Lm
open Go.RowKit Go.Proofs.YtbafkkbbjacekaaW.PrintWords Go.Proofs.Ytbafkkbbjacekaa.PB
theorem rsame_lT (T U : Int) (a b : List S62) (hab : a.length = b.length) (hm : a.length < 9223372036854775807) : ∀ (d k n : Nat), n + d = a.length → d < k →
    ∃ r, drawlotref14_Same.l0 k (n : Int) T a U b = some r ∧ (r = true ↔ a.drop n = b.drop n) := by
  intro d
  induction d with
  | zero =>
    intro k n hn hk
    obtain ⟨k, rfl⟩ : ∃ m, k = m + 1 := ⟨k - 1, by omega⟩
    refine ⟨true, ?_, ?_⟩
    · simp only [drawlotref14_Same.l0]; rw [if_neg (by omega)]
    · rw [List.drop_eq_nil_of_le (by omega), List.drop_eq_nil_of_le (by omega)]; simp
  | succ d ih =>
    intro k n hn hk
    obtain ⟨k, rfl⟩ : ∃ m, k = m + 1 := ⟨k - 1, by omega⟩
    simp only [drawlotref14_Same.l0]
    rw [if_pos (by omega), if_pos (by omega), if_pos (by omega), dropT (l := a) (by omega), dropT (l := b) (by omega)]
    by_cases c : rd_T62 a (n : Int) = rd_T62 b (n : Int)
    · rw [if_neg (by rw [ne62]; simpa using c), stepC (m := a.length) (by omega) hm]
      obtain ⟨r, h1, h2⟩ := ih k (n + 1) (by omega) (by omega)
      exact ⟨r, h1, by simp [c, h2]⟩
    · rw [if_pos ((ne62 _ _).mpr c)]
      exact ⟨false, rfl, by simp [c]⟩
theorem rsame_okT (k : Nat) (T U : Int) (a b : List S62) (hk : a.length + 1 < k) (hm : a.length < 9223372036854775807) : ∃ r, drawlotref14_Same.f k T a U b = some r ∧ (r = true ↔ T = U ∧ a = b) := by
  obtain ⟨k, rfl⟩ : ∃ m, k = m + 1 := ⟨k - 1, by omega⟩
  unfold drawlotref14_Same.f
  simp only [drawlotref14_Same.j0]
  by_cases t : T = U
  · rw [if_pos t]
    by_cases h : a.length = b.length
    · rw [if_neg (by simp; omega)]
      obtain ⟨r, h1, h2⟩ := rsame_lT T U a b h hm a.length k 0 (by omega) (by omega)
      rw [show (0 : Int) = ((0 : Nat) : Int) from rfl, h1]
      rw [List.drop_zero, List.drop_zero] at h2
      exact ⟨r, rfl, by simp [t, h2]⟩
    · rw [if_pos (by simp; omega)]
      exact ⟨false, rfl, by simp [t]; intro e; exact h (by rw [e])⟩
  · rw [if_neg t]
    exact ⟨false, by simp, by simp [t]⟩
end Go.Proofs.Ytbafkkbbjacekaa.Lm
