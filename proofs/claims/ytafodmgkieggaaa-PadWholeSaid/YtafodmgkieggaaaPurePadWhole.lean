/- A padded message is whole blocks; unlike messages are unlike, padded; the statement over lists alone. No conditions. -/
import Derived.Test.YtafodmgkieggaaaPDx6
import Derived.Test.YtafodmgkieggaaaLmPad
namespace Go.Proofs.Ytafodmgkieggaaa.Pure
open Go.RowKit Go.Proofs.Ytafodmgkieggaaa.PD Go.Proofs.YtafodmgkieggaaaW.PrintWords Go.Proofs.YtafodmgkieggaaaW.PrintLast Go.Proofs.Ytafodmgkieggaaa.Lm
theorem PadWhole : drawlotlaw02_PadWhole.Pure := by
  intro b c _ _ hb _ _ hc
  have hb : ∀ x ∈ b, 0 ≤ x ∧ x < 256 := fun x hx => wf8 (hb x hx)
  have hc : ∀ x ∈ c, 0 ≤ x ∧ x < 256 := fun x hx => wf8 (hc x hx)
  refine ⟨100, ?_⟩
  unfold drawlotlaw02_PadWhole.f
  rw [alive02 _ (by omega), bs, if_pos rfl]
  by_cases h : (b.length : Int) > 2000
  · rw [if_pos h]
  · rw [if_neg h]
    by_cases h2 : (c.length : Int) > 2000
    · rw [if_pos h2]
    · have hl := padF_len b
      have hk : pad_Blocks.f (b.length : Int) = some (((b.length : Int) + 72) / 64) := by rw [pblocks_ok _ (by omega) (by omega), if_neg (by omega)]
      rw [if_neg h2, ppad_ok _ (by omega) b (by omega), bs, ppad_ok _ (by omega) c (by omega), bs, pcut_ok _ _ (by omega) (by omega), bs, if_pos (by omega), if_pos (by rw [List.length_drop]; omega), u64w_id (x := (b.length : Int)) (by omega) (by omega), hk, bs, cutF_len, u64w_id (by omega) (by omega), if_pos (by omega)]
      by_cases e : b = c
      · subst e
        rw [if_pos rfl, if_pos rfl]
      · rw [if_neg (fun q => e (padF_inj (by omega) (by omega) (bytes_inj _ _ (padF_byte hb) (padF_byte hc) q))), if_neg (fun q => e (bytes_inj _ _ hb hc q))]
end Go.Proofs.Ytafodmgkieggaaa.Pure
