/- The tail behind a message's whole blocks makes the padded message; the statement over lists alone. No conditions. -/
import Derived.Test.YtafodmgkieggaaaPDx7
import Derived.Test.YtafodmgkieggaaaLmPad
namespace Go.Proofs.Ytafodmgkieggaaa.Pure
open Go.RowKit Go.Proofs.Ytafodmgkieggaaa.PD Go.Proofs.YtafodmgkieggaaaW.PrintWords Go.Proofs.YtafodmgkieggaaaW.PrintLast Go.Proofs.Ytafodmgkieggaaa.Lm
theorem PadSplits : drawlotlaw02_PadSplits.Pure := by
  intro l _ _ _
  refine ⟨100, ?_⟩
  unfold drawlotlaw02_PadSplits.f
  rw [alive02 _ (by omega), bs, if_pos rfl]
  by_cases h : (l.length : Int) > 2000
  · rw [if_pos h]
  · have hd : (l.drop (64 * (l.length / 64))).length = l.length % 64 := by rw [List.length_drop]; omega
    have ht : pad_Tail.f 100 (l.drop (64 * (l.length / 64))) (l.length : Int) = some (tailF (l.drop (64 * (l.length / 64))) (l.length : Int), true) := by
      rw [ptail_ok _ (by omega) _ _ (by omega) (by omega) (by omega), if_neg]
      rw [hd]; omega
    have hz : (tailF (l.drop (64 * (l.length / 64))) (l.length : Int)).length < 5000 := by
      unfold tailF zerosF
      simp only [List.length_append, List.length_cons, List.length_replicate, be8_len, hd]
      split <;> omega
    rw [if_neg h, pcut_ok _ l (by omega) (by omega), bs, u64w_id (x := (l.length : Int)) (by omega) (by omega), ht, bs, if_pos rfl, cutF_len, w64_id (x := (l.length : Int) / 64) (by omega) (by omega), if_pos (by omega), if_pos (by rw [hd]; omega), ppad_ok _ (by omega) l (by omega), bs, bs, w64_id (by omega) (by omega), if_pos (by omega), if_pos (by omega), if_pos (by simp; omega), bs, if_pos (by simp; omega)]
    unfold tailF padF
    rw [hd, u64w_id (by omega) (by omega), List.nil_append, ← List.append_assoc, show ((64 * ((l.length / 64 : Nat) : Int)).toNat) = 64 * (l.length / 64) by omega, List.take_append_drop]
    simp
end Go.Proofs.Ytafodmgkieggaaa.Pure
