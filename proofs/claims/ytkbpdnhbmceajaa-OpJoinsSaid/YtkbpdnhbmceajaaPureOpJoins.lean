/- Bytes behind those of operations are decoded as operations behind these; the statement over lists alone. No conditions. -/
import Derived.Test.YtkbpdnhbmceajaaPOx7
import Derived.Test.YtkbpdnhbmceajaaLmOp
namespace Go.Proofs.Ytkbpdnhbmceajaa.Pure
open Go.RowKit Go.Proofs.Ytkbpdnhbmceajaa.PO Go.Proofs.YtkbpdnhbmceajaaW.PrintWords Go.Proofs.YtkbpdnhbmceajaaW.PrintLast Go.Proofs.Ytkbpdnhbmceajaa.Lm
set_option linter.unusedVariables false
set_option linter.unusedSimpArgs false
theorem OpJoins : drawlotlaw24_OpJoins.Pure := by
  intro l b hl _ _ hb
  have hL : ∀ x ∈ l, WO x := fun x hx => WO.of (hl.2 x hx)
  have hB := BY.of_wf hb
  clear hl hb
  refine ⟨4000, ?_⟩
  unfold drawlotlaw24_OpJoins.f
  rw [alive24 _ (by omega), bs, if_pos rfl]
  by_cases h1 : (l.length : Int) > 300
  · rw [if_pos h1]
  by_cases h2 : (b.length : Int) > 3000
  · rw [if_neg h1, if_pos h2]
  rw [if_neg h1, if_neg h2]
  rcases enc_ok l hL (by omega) with ⟨a, D, hS, hE⟩ | hE
  · obtain ⟨T, hT, hD⟩ := dec_total 3000 b (by omega) hB
    have hs := seg_len l a D hS
    have ht := tot_in l
    have h3 : op_Decode.f 4000 (a ++ b) = some (D ++ T) := by
      unfold op_Decode.f
      have := dec_seg l a D hS b (4000 - l.length) [] (by omega) (by simp; omega)
      rw [show 4000 - l.length + l.length = 4000 by omega] at this
      rw [this, List.nil_append, hD _ _ (by omega) (by omega)]
    have h4 : op_Decode.f 4000 b = some T := by
      unfold op_Decode.f
      rw [hD _ _ (by omega) (by simp; omega), List.nil_append]
    rw [hE _ (by omega), bs, if_pos rfl, bs, if_pos (by simp; omega), bs, List.nil_append, if_pos (by simp; omega), h3, bs, bs, if_pos (by simp; omega), bs, List.nil_append, h4, bs, if_pos (by omega), rsame_ok _ _ (seg_all2 T l a D hS) (by rw [List.length_append]; omega) _ (by rw [List.length_append]; omega), bs]
  · rw [hE _ (by omega), bs, if_neg (by simp)]
    rfl
end Go.Proofs.Ytkbpdnhbmceajaa.Pure
