/- Whether the reference of alias tells a table right, in plain Lean. No conditions. -/
import Derived.Test.YtbafkkbbjacekaaPBx8
import Derived.Test.YtbafkkbbjacekaaLmAlias
namespace Go.Proofs.Ytbafkkbbjacekaa.Lm
open Go.RowKit Go.Proofs.YtbafkkbbjacekaaW.PrintWords Go.Proofs.Ytbafkkbbjacekaa.PB
theorem rright_l (T : Int) (cl : List S62) (hm : cl.length < 9223372036854775807) : ∀ (d k x : Nat), x + d = cl.length → d < k →
    drawlotref14_Right.l0 k (x : Int) T cl = some ((cl.drop x).all (cellOk T cl.length)) := by
  intro d
  induction d with
  | zero =>
    intro k x hx hk
    obtain ⟨k, rfl⟩ : ∃ m, k = m + 1 := ⟨k - 1, by omega⟩
    simp only [drawlotref14_Right.l0]
    rw [if_neg (by omega), List.drop_eq_nil_of_le (by omega)]; rfl
  | succ d ih =>
    intro k x hx hk
    obtain ⟨k, rfl⟩ : ∃ m, k = m + 1 := ⟨k - 1, by omega⟩
    simp only [drawlotref14_Right.l0]
    rw [if_pos (by omega), if_pos (by omega), dropT (by omega), List.all_cons, stepC (m := cl.length) (by omega) hm]
    rw [show cellOk T (cl.length : Int) (rd_T62 cl (x : Int)) = (decide ((rd_T62 cl (x : Int)).f0 ≤ T) && (decide (0 ≤ (rd_T62 cl (x : Int)).f1) && decide ((rd_T62 cl (x : Int)).f1 < (cl.length : Int)))) from rfl]
    by_cases h : (rd_T62 cl (x : Int)).f0 > T
    · rw [if_pos h, decide_eq_false (p := (rd_T62 cl (x : Int)).f0 ≤ T) (by omega)]; simp
    · rw [if_neg h, decide_eq_true (p := (rd_T62 cl (x : Int)).f0 ≤ T) (by omega)]
      by_cases g : (rd_T62 cl (x : Int)).f1 < 0
      · rw [if_pos g, decide_eq_false (p := 0 ≤ (rd_T62 cl (x : Int)).f1) (by omega)]; simp
      · rw [if_neg g, decide_eq_true (p := 0 ≤ (rd_T62 cl (x : Int)).f1) (by omega)]
        by_cases e : (rd_T62 cl (x : Int)).f1 ≥ (cl.length : Int)
        · rw [if_pos e, decide_eq_false (p := (rd_T62 cl (x : Int)).f1 < (cl.length : Int)) (by omega)]; simp
        · rw [if_neg e, decide_eq_true (p := (rd_T62 cl (x : Int)).f1 < (cl.length : Int)) (by omega), ih k (x + 1) (by omega) (by omega)]
          simp
theorem rright_ok (k : Nat) (T : Int) (cl : List S62) (hT : 0 ≤ T ∧ T < 18446744073709551616) (hk : cl.length + 1 < k) (hm : cl.length < 9223372036854775807) : drawlotref14_Right.f k T cl = some (rightS T cl) := by
  unfold drawlotref14_Right.f rightS
  rw [u64w_id (x := (cl.length : Int)) (by omega) (by omega), rmul_ok k (by omega) (by omega) hT, bs]
  obtain ⟨k, rfl⟩ : ∃ m, k = m + 1 := ⟨k - 1, by omega⟩
  simp only [drawlotref14_Right.j0]
  by_cases z : (cl.length : Int) = 0
  · rw [if_pos z, if_pos trivial, decide_eq_false (p := 0 < (cl.length : Int)) (by omega)]; rfl
  · rw [if_neg z, decide_eq_true (p := 0 < (cl.length : Int)) (by omega)]
    by_cases t : T = 0
    · rw [if_pos t, if_pos trivial, decide_eq_false (p := 0 < T) (by omega)]; rfl
    · rw [if_neg t, decide_eq_true (p := 0 < T) (by omega)]
      by_cases c : (cl.length : Int) * T < 9223372036854775808
      · rw [if_pos c, decide_eq_true c, if_neg (by simp)]
        have := rright_l T cl hm cl.length k 0 (by omega) (by omega)
        rw [List.drop_zero] at this
        simpa using this
      · rw [if_neg c, decide_eq_false c, if_pos (by simp)]; rfl
end Go.Proofs.Ytbafkkbbjacekaa.Lm
