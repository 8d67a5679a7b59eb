/- What the functions of scan and of its reference answer, in plain Lean. No conditions. -/
import Derived.Test.YtgboamdacnigmaaPFx1
import Derived.Test.YtgboamdacnigmaaLmSafe
namespace Go.Proofs.Ytgboamdacnigmaa.Lm
open Go.RowKit Go.Proofs.YtgboamdacnigmaaW.PrintWords Go.Proofs.Ytgboamdacnigmaa.PF

/-- The owner of a ticket, by the list from place i on. -/
def ownr : List Int → Int → Int → Int × Int
  | [], _, _ => (0, 3)
  | x :: l, i, t => if t < x then (i, 0) else ownr l (i + 1) (t - x)
/-- How many are above 0. -/
def pos : List Int → Int
  | [] => 0
  | x :: l => (if x > 0 then 1 else 0) + pos l
theorem pos_range (l : List Int) : 0 ≤ pos l ∧ pos l ≤ l.length := by
  induction l with
  | nil => simp [pos]
  | cons x l ih => simp only [pos, List.length_cons]; split <;> omega
theorem pos_append (a b : List Int) : pos (a ++ b) = pos a + pos b := by
  induction a with
  | nil => simp [pos]
  | cons x a ih => simp only [pos, List.cons_append, ih]; omega
theorem clone_ok (l : List Int) (h : l.length < 17592186044416) : slices_Clone_uint64_uint64.f l = some l := by
  unfold slices_Clone_uint64_uint64.f
  simp only [Option.bind_some, List.length_nil, Nat.zero_add, List.nil_append]
  rw [if_pos h]
theorem step_cast {n : Nat} {m : Nat} (h : n < m) (hm : m < 9223372036854775807) : wrap64 ((n : Int) + 1) = ((n + 1 : Nat) : Int) := by rw [w64_id (by omega) (by omega)]; omega
/-- The owner lies in the list, and its ticket between the sums; or there is none. -/
theorem ownr_spec : ∀ (l : List Int) (i t : Int), 0 ≤ t → U64 l →
    (∃ n : Nat, n < l.length ∧ ownr l i t = (i + n, 0) ∧ (l.take n).sum ≤ t ∧ t < (l.take (n + 1)).sum ∧ 0 < rd l n) ∨ (ownr l i t = (0, 3) ∧ l.sum ≤ t) := by
  intro l
  induction l with
  | nil => intro i t h0 _; right; exact ⟨rfl, by simpa using h0⟩
  | cons x l ih =>
    intro i t h0 hu
    have hx := hu x (by simp)
    have hl : U64 l := fun y hy => hu y (by simp [hy])
    simp only [ownr]
    by_cases c : t < x
    · left
      refine ⟨0, by simp, by rw [if_pos c]; simp, by simpa using h0, by simpa using c, ?_⟩
      simp [rd]; omega
    · rw [if_neg c]
      rcases ih (i + 1) (t - x) (by omega) hl with ⟨n, h1, h2, h3, h4, h5⟩ | ⟨h1, h2⟩
      · left
        refine ⟨n + 1, by simp; omega, by rw [h2]; simp; omega, by simp; omega, ?_, ?_⟩
        · rw [List.take_succ_cons, List.sum_cons]; omega
        · rw [rd_nat] at h5 ⊢; simpa using h5
      · right
        exact ⟨h1, by simp; omega⟩
end Go.Proofs.Ytgboamdacnigmaa.Lm
