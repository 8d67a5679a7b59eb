/- The bounds of a game are the reference's. No conditions. -/
import Derived.Test.YtbafkkbbjacekaaPOx11
import Derived.Test.YtbafkkbbjacekaaLmOdds
namespace Go.Proofs.Ytbafkkbbjacekaa.Pure
open Go.RowKit Go.Proofs.Ytbafkkbbjacekaa.PO Go.Proofs.YtbafkkbbjacekaaW.PrintWords Go.Proofs.YtbafkkbbjacekaaW.PrintLast Go.Proofs.Ytbafkkbbjacekaa.Lm
theorem alive16b (k : Nat) (hk : 400 ≤ k) : drawlotlaw16_alive.f k = some true := at_rounds (g := fun k => drawlotlaw16_alive.f k) (fun k => drawlotlaw16_alive.mono k) (k := 400) (k' := k) hk (r := true) (by decide +kernel)
theorem OddsBounds : drawlotlaw16_OddsBounds.Pure := by
  intro a n m ha hn hm
  have ha := wf64 ha
  have hn := wf64 hn
  have hm := wfi64 hm
  refine ⟨312000, ?_⟩
  generalize hK : (312000 : Nat) = K
  unfold drawlotlaw16_OddsBounds.f
  rw [alive16b _ (by omega), bs, if_pos rfl]
  have same : ∀ x : Int, 0 ≤ x → (nl x).length ≤ 127 → drawlotref10_Same.f K (nl x) (nl x) = some true := fun x _ h => rsame_p _ K (by omega) (by omega)
  have same0 : drawlotref10_Same.f K [] [] = some true := rsame_p _ K (by simp; omega) (by simp)
  by_cases c : may n m
  · obtain ⟨c0, c1, c2, c3⟩ := c
    obtain ⟨M, rfl⟩ := Int.eq_ofNat_of_zero_le (show 0 ≤ m by omega)
    have d2 : 0 < M := by omega
    have d3 : M ≤ 64 := by omega
    have hk : 310000 ≤ K := by omega
    have l := aL_le c0 M
    have e := aE_le c0 M
    have sA := same (aA n M) (by omega) (aA_len c0 c1 d3 (by omega) (Int.le_refl _))
    have sL := same (aL n M) (by omega) (aA_len c0 c1 d3 l.1 l.2)
    have sE := same (aE n M) (by omega) (aA_len c0 c1 d3 e.1 e.2)
    rw [all_p c0 c1 d2 d3 K hk, bs, rall2_p c0 c1 d2 d3 K hk, bs, lost_p c0 c1 d2 d3 K hk, bs, rlost_p c0 c1 d2 d3 K hk, bs, each_p c0 c1 d2 d3 K hk, bs, reach_p c0 c1 d2 d3 K hk, bs]
    by_cases g : a > n
    · rw [share_big c0 c1 d2 d3 g, bs, rshare_big c0 c1 d2 d3 g K hk, bs, bits_p c0 c1 d2 d3 K hk, bs, rbits_p c0 c1 d2 d3 K hk, bs, sA, bs, if_pos rfl, if_pos rfl, sL, bs, if_pos rfl, if_pos rfl, sE, bs, if_pos rfl, if_pos rfl, same0, bs, if_pos rfl, if_pos rfl, if_pos rfl]
      simp
    · have s := share_le c0 M ha.1 (show a ≤ n by omega)
      have sS := same (a * aE n M) s.1 (aA_len c0 c1 d3 s.1 s.2)
      rw [share_p c0 c1 d2 d3 K hk ha.1 (by omega), bs, rshare_p c0 c1 d2 d3 K hk ha.1 (by omega), bs, bits_p c0 c1 d2 d3 K hk, bs, rbits_p c0 c1 d2 d3 K hk, bs, sA, bs, if_pos rfl, if_pos rfl, sL, bs, if_pos rfl, if_pos rfl, sE, bs, if_pos rfl, if_pos rfl, sS, bs, if_pos rfl, if_pos rfl, if_pos rfl]
      simp
  · rw [all_no c, bs, rall_no c, bs, lost_no c, bs, rlost_no c, bs, each_no c, bs, reach_no c, bs, share_no c, bs, rshare_no c, bs, bits_no c, bs, rbits_no c, bs, same0, bs, if_pos rfl, if_pos rfl, bs, if_pos rfl, if_pos rfl, bs, if_pos rfl, if_pos rfl, bs, if_pos rfl, if_pos rfl, if_pos rfl]
    simp
end Go.Proofs.Ytbafkkbbjacekaa.Pure
