/- Any numbers: the program's total is the reference's, or refused; the statement over lists alone. No conditions. -/
import Derived.Test.YtngacagfmpndmaaPFx9
import Derived.Test.YtngacagfmpndmaaLmSafe
namespace Go.Proofs.Ytngacagfmpndmaa.Pure
open Go.RowKit Go.Proofs.Ytngacagfmpndmaa.PF Go.Proofs.YtngacagfmpndmaaW.PrintWords Go.Proofs.YtngacagfmpndmaaW.PrintLast Go.Proofs.Ytngacagfmpndmaa.Lm
theorem SafeTotals : drawlotlaw09_SafeTotals.Pure := by
  intro l hm hs hw
  have hu := U64.of_wf hw
  refine ⟨l.length + 5, ?_⟩
  unfold drawlotlaw09_SafeTotals.f
  rw [at_rounds (g := fun k => drawlotlaw09_alive.f k) (fun k => drawlotlaw09_alive.mono k) (k := 5) (k' := l.length + 5) (by omega) (r := true) (by decide +kernel)]
  simp only [Option.bind_some, if_true, List.nil_append, List.length_nil, Nat.zero_add]
  by_cases h : (l.length : Int) > 1000
  · rw [if_pos h]
  · rw [if_neg h, if_pos (by omega), total_ok _ l hu (by omega) (by omega), rtotal_ok _ l hu (by omega) (by omega)]
    simp only [Option.bind_some, if_true, beq_self_eq_true, same_ok (l.length + 5) l l (by omega) (by omega), decide_true]
end Go.Proofs.Ytngacagfmpndmaa.Pure
