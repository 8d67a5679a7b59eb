/- Numbers that are added come back, in either order; the statement over whole numbers alone. No conditions. -/
import Derived.Test.YtngacagfmpndmaaPFx10
import Derived.Test.YtngacagfmpndmaaLmSafe
namespace Go.Proofs.Ytngacagfmpndmaa.Pure
open Go.RowKit Go.Proofs.Ytngacagfmpndmaa.PF Go.Proofs.YtngacagfmpndmaaW.PrintWords Go.Proofs.YtngacagfmpndmaaW.PrintLast Go.Proofs.Ytngacagfmpndmaa.Lm
theorem SafeBack : drawlotlaw09_SafeBack.Pure := by
  intro a b ha hb
  have ha := wf64 ha
  have hb := wf64 hb
  refine ⟨5, ?_⟩
  unfold drawlotlaw09_SafeBack.f
  rw [show drawlotlaw09_alive.f 5 = some true by decide +kernel]
  simp only [Option.bind_some, add_ok ha hb, add_ok hb ha, if_true]
  rw [Int.add_comm b a]
  simp only [if_true]
  by_cases h : a + b < 9223372036854775808
  · simp only [h, if_true, bne_self_eq_false, Bool.false_eq_true, if_false]
    have hs : 0 ≤ a + b ∧ a + b < 18446744073709551616 := by omega
    simp only [sub_ok hs ha, sub_ok hs hb, bs]
    rw [if_pos (show a ≤ a + b ∧ a + b - a < 9223372036854775808 by omega), if_pos (show b ≤ a + b ∧ a + b - b < 9223372036854775808 by omega)]
    simp only [if_true]
    rw [if_pos (by omega), show a + b - b = a by omega]
    simp
  · simp [h]
end Go.Proofs.Ytngacagfmpndmaa.Pure
