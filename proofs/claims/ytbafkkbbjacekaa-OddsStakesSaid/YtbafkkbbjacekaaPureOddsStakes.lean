/- The shares of a table of stakes are the reference's, and the table stays. No conditions. -/
import Derived.Test.YtbafkkbbjacekaaPOx12
import Derived.Test.YtbafkkbbjacekaaLmOdds
namespace Go.Proofs.Ytbafkkbbjacekaa.Pure
open Go.RowKit Go.Proofs.Ytbafkkbbjacekaa.PO Go.Proofs.YtbafkkbbjacekaaW.PrintWords Go.Proofs.YtbafkkbbjacekaaW.PrintLast Go.Proofs.Ytbafkkbbjacekaa.Lm
theorem alive16s (k : Nat) (hk : 400 ≤ k) : drawlotlaw16_alive.f k = some true := at_rounds (g := fun k => drawlotlaw16_alive.f k) (fun k => drawlotlaw16_alive.mono k) (k := 400) (k' := k) hk (r := true) (by decide +kernel)
theorem stake_len {l : List Int} (hl : U64 l) {w i m : Int} (hw0 : 0 ≤ w) (hw : 0 < l.length → 0 < w) : (stakeF w i m l).1.length ≤ 127 := by
  have hs := sum_nonneg hl
  unfold stakeF
  by_cases c : 0 < m ∧ m ≤ 64
  · obtain ⟨M, rfl⟩ := Int.eq_ofNat_of_zero_le (show 0 ≤ m by omega)
    rw [if_pos c]
    by_cases c1 : l.sum < 9223372036854775808
    · rw [if_pos c1]
      by_cases c2 : l.sum = 0
      · rw [if_pos c2]; simp
      · rw [if_neg c2]
        by_cases c3 : l.sum * w < 9223372036854775808
        · rw [if_pos c3]
          by_cases c4 : 0 ≤ i ∧ i < l.length
          · rw [if_pos c4]
            have hw := hw (by omega)
            have hr := rd_le_sum hl c4.1 c4.2
            have hr0 := (hl.rd i).1
            have q0 := Int.mul_nonneg hw0 hr0
            have q1 := Int.mul_le_mul_of_nonneg_left hr hw0
            rw [Int.mul_comm w l.sum] at q1
            have q2 : 0 < l.sum * w := Int.mul_pos (by omega) hw
            have s := share_le q2 M q0 q1
            exact aA_len q2 c3 (show M ≤ 64 by omega) s.1 s.2
          · rw [if_neg c4]; simp
        · rw [if_neg c3]; simp
    · rw [if_neg c1]; simp
  · rw [if_neg c]; simp
theorem OddsStakes : drawlotlaw16_OddsStakes.Pure := by
  intro i m l hi hm hlen hbytes hw
  have hu := U64.of_wf hw
  refine ⟨312000 + l.length, ?_⟩
  generalize hK : (312000 : Nat) + l.length = K
  unfold drawlotlaw16_OddsStakes.f
  rw [alive16s _ (by omega), bs, if_pos rfl]
  by_cases h : (l.length : Int) > 300
  · rw [if_pos h]
  · rw [if_neg h, bs, if_pos (by simp only [List.length_nil]; omega), bs, List.nil_append, lead_p hu (by omega) i m K (by omega), bs, rlead_p hu (by omega) i m K (by omega), bs, pick_p hu (by omega) i m K (by omega), bs, rpick_p hu (by omega) i m K (by omega), bs]
    have a := stake_len hu (w := 1) (i := i) (m := m) (by omega) (fun _ => by omega)
    have b := stake_len hu (w := (l.length : Int)) (i := i) (m := m) (by omega) (fun _ => by omega)
    rw [rsame_p _ K (by omega) (by omega), bs, if_pos rfl, if_pos rfl, rsame_p _ K (by omega) (by omega), bs, if_pos rfl, if_pos rfl, same_ok K l l (by omega) (by omega), bs]
    simp
end Go.Proofs.Ytbafkkbbjacekaa.Pure
