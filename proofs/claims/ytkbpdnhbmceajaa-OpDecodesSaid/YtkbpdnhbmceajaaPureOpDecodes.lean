/- The operations of any bytes are the document's; the statement over lists alone. No conditions. -/
import Derived.Test.YtkbpdnhbmceajaaPQx12
import Derived.Test.YtkbpdnhbmceajaaLmOpR
namespace Go.Proofs.Ytkbpdnhbmceajaa.Pure
open Go.RowKit Go.Proofs.Ytkbpdnhbmceajaa.PQ Go.Proofs.YtkbpdnhbmceajaaW.PrintWords Go.Proofs.YtkbpdnhbmceajaaW.PrintLast Go.Proofs.Ytkbpdnhbmceajaa.Lm
set_option linter.unusedVariables false
set_option linter.unusedSimpArgs false
theorem OpDecodes : drawlotlaw24_OpDecodes.Pure := by
  intro b _ _ hb
  have hB := BY.of_wf hb
  clear hb
  refine ⟨40000, ?_⟩
  unfold drawlotlaw24_OpDecodes.f
  rw [alive24 _ (by omega), bs, if_pos rfl]
  by_cases h2 : (b.length : Int) > 3000
  · rw [if_pos h2]
  obtain ⟨T, hT, hD, hR⟩ := rdec_total 3000 b (by omega) (by omega) hB
  have h3 : op_Decode.f 40000 b = some T := by
    unfold op_Decode.f
    rw [hD _ _ (by omega) (by simp; omega), List.nil_append]
  have h4 : drawlotref24_Decode.f 40000 b = some T := by
    unfold drawlotref24_Decode.f
    rw [hR _ _ (by omega) (by simp; omega), List.nil_append]
  rw [if_neg h2, bs, if_pos (by simp; omega), bs, List.nil_append, h3, bs, h4, bs, rsame_ok _ _ (All2.refl T) (by omega) _ (by omega), bs, if_pos rfl]
  simp
end Go.Proofs.Ytkbpdnhbmceajaa.Pure
