/- Any message, padded, and its whole blocks; the statement over lists alone. No conditions. -/
import Derived.Test.YtafodmgkieggaaaPDx5
import Derived.Test.YtafodmgkieggaaaLmPadS
namespace Go.Proofs.Ytafodmgkieggaaa.Pure
open Go.RowKit Go.Proofs.Ytafodmgkieggaaa.PD Go.Proofs.YtafodmgkieggaaaW.PrintWords Go.Proofs.YtafodmgkieggaaaW.PrintLast Go.Proofs.Ytafodmgkieggaaa.Lm
theorem PadMessages : drawlotlaw02_PadMessages.Pure := by
  intro l _ _ _
  refine ⟨100, ?_⟩
  unfold drawlotlaw02_PadMessages.f
  rw [alive02 _ (by omega), bs, if_pos rfl]
  by_cases h : (l.length : Int) > 2000
  · rw [if_pos h]
  · rw [if_neg h, bs, if_pos (by simp; omega), bs, List.nil_append, pcut_ok _ l (by omega) (by omega), bs, rcut_ok _ l (by omega) (by omega), bs, ppad_ok _ (by omega) l (by omega), bs, rpad_ok _ (by omega) l (by omega), bs, if_pos rfl, rsame_ok _ _ (by rw [cutF_len]; omega) (by rw [cutF_len]; omega), bs, if_pos rfl, if_pos rfl]
    simp
end Go.Proofs.Ytafodmgkieggaaa.Pure
