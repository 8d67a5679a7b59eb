/- The shares of all places and the lost part make up the whole range. No conditions. -/
import Derived.Test.YtbafkkbbjacekaaPOx13
import Derived.Test.YtbafkkbbjacekaaLmOdds
namespace Go.Proofs.Ytbafkkbbjacekaa.Pure
open Go.RowKit Go.Proofs.Ytbafkkbbjacekaa.PO Go.Proofs.YtbafkkbbjacekaaW.PrintWords Go.Proofs.YtbafkkbbjacekaaW.PrintLast Go.Proofs.Ytbafkkbbjacekaa.Lm
theorem alive16t (k : Nat) (hk : 400 ≤ k) : drawlotlaw16_alive.f k = some true := at_rounds (g := fun k => drawlotlaw16_alive.f k) (fun k => drawlotlaw16_alive.mono k) (k := 400) (k' := k) hk (r := true) (by decide +kernel)
theorem together_l {l : List Int} (hl : U64 l) (hs : l.sum < 9223372036854775808) (hz : l.sum ≠ 0) (hm : l.length ≤ 100) {M : Nat} (hM0 : 0 < M) (hM : M ≤ 64) : ∀ (d k n : Nat), n + d = l.length → d + 320000 < k →
    drawlotlaw16_OddsTogether.l0 k l (M : Int) (nl (aA l.sum M)) (nl (aL l.sum M + (l.take n).sum * aE l.sum M)) (n : Int) = some true := by
  have hp := sum_nonneg hl
  have h0 : 0 < l.sum := by omega
  have lb := aL_le h0 M
  have e := aE_mul h0 M
  have eb := aE_le h0 M
  have la := aA_len h0 hs hM (x := aA l.sum M) (by omega) (Int.le_refl _)
  have bd : ∀ n : Nat, 0 ≤ aL l.sum M + (l.take n).sum * aE l.sum M ∧ aL l.sum M + (l.take n).sum * aE l.sum M ≤ aA l.sum M := by
    intro n
    have a := sum_take_drop l n
    have b := sum_nonneg (hl.take n)
    have c := sum_nonneg (hl.drop n)
    have q0 := Int.mul_nonneg b eb.1
    have q1 := Int.mul_le_mul_of_nonneg_right (show (l.take n).sum ≤ l.sum by omega) eb.1
    omega
  intro d
  induction d with
  | zero =>
    intro k n hn hk
    obtain ⟨k, rfl⟩ : ∃ m, k = m + 1 := ⟨k - 1, by omega⟩
    simp only [drawlotlaw16_OddsTogether.l0]
    rw [if_neg (by omega), List.take_of_length_le (by omega), e, show aL l.sum M + (aA l.sum M - aL l.sum M) = aA l.sum M by omega, rsame_p _ k (by omega) (by omega), bs]
  | succ d ih =>
    intro k n hn hk
    obtain ⟨k, rfl⟩ : ∃ m, k = m + 1 := ⟨k - 1, by omega⟩
    have b1 := bd n
    have b2 := bd (n + 1)
    have ln := aA_len h0 hs hM b1.1 b1.2
    have hr := (hl.rd (n : Int)).1
    have hr1 := rd_le_sum hl (i := (n : Int)) (by omega) (by omega)
    have s := share_le h0 M hr hr1
    have lsh := aA_len h0 hs hM s.1 s.2
    have st : stakeF 1 (n : Int) (M : Int) l = (nl (rd l (n : Int) * aE l.sum M), 0) := by
      unfold stakeF
      rw [if_pos ⟨by omega, by omega⟩, if_pos hs, if_neg hz, Int.mul_one, if_pos hs, if_pos ⟨by omega, by omega⟩, Int.toNat_natCast, Int.one_mul]
    simp only [drawlotlaw16_OddsTogether.l0]
    rw [if_pos (by omega), lead_p hl (by omega) _ _ k (by omega), bs, st, if_pos rfl, if_neg (by dsimp only; omega), if_neg (by omega), rsum_p b1.1 s.1 (by omega) (by omega) k (by omega), bs, nat_up (by omega)]
    rw [show aL l.sum M + (l.take n).sum * aE l.sum M + rd l (n : Int) * aE l.sum M = aL l.sum M + (l.take (n + 1)).sum * aE l.sum M by rw [sum_take_step (by omega), Int.add_mul]; omega]
    exact ih k (n + 1) (by omega) (by omega)
theorem OddsTogether : drawlotlaw16_OddsTogether.Pure := by
  intro a l ha hlen hbytes hw
  have hu := U64.of_wf hw
  have ha := wf8 ha
  have hs := sum_nonneg hu
  refine ⟨330000 + l.length, ?_⟩
  generalize hK : (330000 : Nat) + l.length = K
  unfold drawlotlaw16_OddsTogether.f
  rw [alive16t _ (by omega), bs, if_pos rfl]
  by_cases h : (l.length : Int) > 20
  · rw [if_pos h]
  · rw [if_neg h, rtotal_ok K l hu (by omega) (by omega), bs]
    by_cases c : l.sum < 9223372036854775808
    · rw [if_pos c, if_pos rfl]
      by_cases z : l.sum = 0
      · rw [if_pos z]
      · rw [if_neg z]
        obtain ⟨M, hM⟩ := Int.eq_ofNat_of_zero_le (show 0 ≤ 1 + a % 64 by omega)
        rw [Int.tmod_eq_emod_of_nonneg ha.1, w64_id (x := a % 64) (by omega) (by omega), w64_id (x := 1 + a % 64) (by omega) (by omega), hM]
        rw [all_p (by omega) c (by omega) (by omega) K (by omega), bs, lost_p (by omega) c (by omega) (by omega) K (by omega), bs, if_pos rfl, if_pos rfl]
        have := together_l hu c z (by omega) (M := M) (by omega) (by omega) l.length K 0 (by omega) (by omega)
        rw [List.take_zero, List.sum_nil, Int.zero_mul, Int.add_zero] at this
        exact this
    · rw [if_neg c, if_neg (by decide)]
end Go.Proofs.Ytbafkkbbjacekaa.Pure
