/- Any two numbers: the program's sum, difference and product are the reference's, or refused; the statement over whole numbers alone. No conditions. -/
import Derived.Test.YtngacagfmpndmaaPFx8
import Derived.Test.YtngacagfmpndmaaLmSafe
namespace Go.Proofs.Ytngacagfmpndmaa.Pure
open Go.RowKit Go.Proofs.Ytngacagfmpndmaa.PF Go.Proofs.YtngacagfmpndmaaW.PrintWords Go.Proofs.YtngacagfmpndmaaW.PrintLast Go.Proofs.Ytngacagfmpndmaa.Lm
theorem SafeTwo : drawlotlaw09_SafeTwo.Pure := by
  intro a b ha hb
  have ha := wf64 ha
  have hb := wf64 hb
  refine ⟨5, ?_⟩
  unfold drawlotlaw09_SafeTwo.f
  rw [show drawlotlaw09_alive.f 5 = some true by decide +kernel]
  simp only [Option.bind_some, add_ok ha hb, radd_ok ha hb, sub_ok ha hb, rsub_ok ha hb, mul_ok ha hb, rmul_ok 5 (by decide) ha hb, if_true, beq_self_eq_true, safe_Fits.f]
  by_cases h : a < 9223372036854775808 <;> simp [h]
end Go.Proofs.Ytngacagfmpndmaa.Pure
