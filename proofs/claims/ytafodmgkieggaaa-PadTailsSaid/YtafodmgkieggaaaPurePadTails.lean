/- Any rest's tail, and how many blocks any length has; the statement over lists alone. No conditions. -/
import Derived.Test.YtafodmgkieggaaaPDx4
import Derived.Test.YtafodmgkieggaaaLmPadT
namespace Go.Proofs.Ytafodmgkieggaaa.Pure
open Go.RowKit Go.Proofs.Ytafodmgkieggaaa.PD Go.Proofs.YtafodmgkieggaaaW.PrintWords Go.Proofs.YtafodmgkieggaaaW.PrintLast Go.Proofs.Ytafodmgkieggaaa.Lm
theorem PadTails : drawlotlaw02_PadTails.Pure := by
  intro l n _ _ _ hn
  have hn := wf64 hn
  refine ⟨100, ?_⟩
  unfold drawlotlaw02_PadTails.f
  rw [alive02 _ (by omega), bs, if_pos rfl]
  by_cases h : (l.length : Int) > 500
  · rw [if_pos h]
  · rw [if_neg h, bs, if_pos (by simp; omega), bs, List.nil_append, ptail_ok _ (by omega) l n hn.1 hn.2 (by omega), bs, rtail_ok _ (by omega) l n hn.1 hn.2 (by omega), bs, if_pos rfl, if_pos (by simp), pblocks_ok n hn.1 hn.2, bs, rblocks_ok _ (by omega) n hn.1 hn.2, bs, if_pos rfl]
    simp
end Go.Proofs.Ytafodmgkieggaaa.Pure
