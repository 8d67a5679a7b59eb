/- Any word's mixes are the reference's; the statement over numbers alone. No conditions. -/
import Derived.Test.YtpkdpdbcgbeakaaPCx9
import Derived.Test.YtpkdpdbcgbeakaaPCx3
import Derived.Test.YtpkdpdbcgbeakaaLmPlan
namespace Go.Proofs.Ytpkdpdbcgbeakaa.Pure
open Go.RowKit Go.Proofs.Ytpkdpdbcgbeakaa.PC Go.Proofs.YtpkdpdbcgbeakaaW.PrintWords Go.Proofs.YtpkdpdbcgbeakaaW.PrintLast Go.Proofs.Ytpkdpdbcgbeakaa.Lm
theorem PlanMixes : drawlotlaw03_PlanMixes.Pure := by
  intro x hx
  obtain ⟨h0, h1⟩ := wf32 hx
  refine ⟨200, ?_⟩
  have r := fun (n : Int) (a : -9223372036854775808 ≤ n) (b : n < 9223372036854775808) => r01rotate_ok (k := 200) (by omega) h0 h1 a b
  have s := fun (n : Int) (a : -9223372036854775808 ≤ n) (b : n < 9223372036854775808) => r01right_ok (k := 200) (by omega) h0 h1 a b
  have f1 : drawlotref03_First.f 200 x = some (sig x 7 18 3) := by
    unfold drawlotref03_First.f
    rw [r 7 (by omega) (by omega), bs, r 18 (by omega) (by omega), bs, s 3 (by omega) (by omega), bs]
    rfl
  have f2 : drawlotref03_Second.f 200 x = some (sig x 17 19 10) := by
    unfold drawlotref03_Second.f
    rw [r 17 (by omega) (by omega), bs, r 19 (by omega) (by omega), bs, s 10 (by omega) (by omega), bs]
    rfl
  unfold drawlotlaw03_PlanMixes.f
  rw [alive03 _ (by omega), bs, if_pos rfl, First_ok h0 h1, bs, f1, bs, if_pos rfl, Second_ok h0 h1, bs, f2, bs]
  simp
end Go.Proofs.Ytpkdpdbcgbeakaa.Pure
