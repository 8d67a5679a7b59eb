/- Two shares that make up the whole, and the lost part, make up the whole range. No conditions. -/
import Derived.Test.YtbafkkbbjacekaaPOx15
import Derived.Test.YtbafkkbbjacekaaLmOdds
namespace Go.Proofs.Ytbafkkbbjacekaa.Pure
open Go.RowKit Go.Proofs.Ytbafkkbbjacekaa.PO Go.Proofs.YtbafkkbbjacekaaW.PrintWords Go.Proofs.YtbafkkbbjacekaaW.PrintLast Go.Proofs.Ytbafkkbbjacekaa.Lm
theorem alive16w (k : Nat) (hk : 400 ≤ k) : drawlotlaw16_alive.f k = some true := at_rounds (g := fun k => drawlotlaw16_alive.f k) (fun k => drawlotlaw16_alive.mono k) (k := 400) (k' := k) hk (r := true) (by decide +kernel)
theorem OddsWhole : drawlotlaw16_OddsWhole.Pure := by
  intro n t a hn ht ha
  have hn := wf64 hn
  have ht := wf64 ht
  have ha := wf8 ha
  refine ⟨330000, ?_⟩
  generalize hK : (330000 : Nat) = K
  unfold drawlotlaw16_OddsWhole.f
  rw [alive16w _ (by omega), bs, if_pos rfl]
  obtain ⟨M, hM⟩ := Int.eq_ofNat_of_zero_le (show 0 ≤ 1 + a % 64 by omega)
  rw [Int.tmod_eq_emod_of_nonneg ha.1, w64_id (x := a % 64) (by omega) (by omega), w64_id (x := 1 + a % 64) (by omega) (by omega), hM]
  by_cases c : n = 0
  · rw [if_pos c, all_no (fun h => by have := h.1; omega), bs]; rfl
  · rw [if_neg c]
    by_cases d : n ≥ 9223372036854775808
    · rw [if_pos d, all_no (fun h => by have := h.2.1; omega), bs]; rfl
    · have h0 : 0 < n := by omega
      have h1 : n < 9223372036854775808 := by omega
      have m0 : 0 < M := by omega
      have m1 : M ≤ 64 := by omega
      have hk : 310000 ≤ K := by omega
      rw [if_neg d, u64w_id (x := n + 1) (by omega) (by omega), if_neg (by omega), Int.tmod_eq_emod_of_nonneg ht.1]
      have r0 := Int.emod_nonneg t (show n + 1 ≠ 0 by omega)
      have r1 := Int.emod_lt_of_pos t (show 0 < n + 1 by omega)
      generalize t % (n + 1) = x at *
      rw [u64w_id (x := n - x) (by omega) (by omega)]
      have l := aL_le h0 M
      have e := aE_mul h0 M
      have s1 := share_le h0 M r0 (show x ≤ n by omega)
      have s2 := share_le h0 M (show 0 ≤ n - x by omega) (show n - x ≤ n by omega)
      have k1 := aA_len h0 h1 m1 s1.1 s1.2
      have k2 := aA_len h0 h1 m1 s2.1 s2.2
      have k3 := aA_len h0 h1 m1 l.1 l.2
      have k4 := aA_len h0 h1 m1 (x := aA n M) (by omega) (Int.le_refl _)
      have e1 : x * aE n M + (n - x) * aE n M = aA n M - aL n M := by rw [← Int.add_mul, show x + (n - x) = n by omega, e]
      have k5 := aA_len h0 h1 m1 (x := aA n M - aL n M) (by omega) (by omega)
      rw [all_p h0 h1 m0 m1 K hk, bs, lost_p h0 h1 m0 m1 K hk, bs, share_p h0 h1 m0 m1 K hk r0 (by omega), bs, share_p h0 h1 m0 m1 K hk (a := n - x) (by omega) (by omega), bs, if_pos rfl, if_pos rfl, if_pos rfl, if_pos rfl, if_neg (by dsimp only; omega), if_neg (by dsimp only; omega), if_neg (by dsimp only; omega),
        rsum_p s1.1 s2.1 (by omega) (by omega) K (by omega), bs, e1, rsum_p (by omega) l.1 (by omega) (by omega) K (by omega), bs, show aA n M - aL n M + aL n M = aA n M by omega, rsame_p _ K (by omega) (by omega), bs]
end Go.Proofs.Ytbafkkbbjacekaa.Pure
