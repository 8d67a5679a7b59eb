/- Two numbers' difference, order and division are the reference's. No conditions. -/
import Derived.Test.YtgfkclgpphnjfaaDoorPNx12
import Derived.Test.YtgfkclgpphnjfaaDoorLmAlive10
namespace Go.Proofs.YtgfkclgpphnjfaaDoor.Pure
open Go.RowKit Go.Proofs.YtgfkclgpphnjfaaDoor.PN Go.Proofs.YtgfkclgpphnjfaaDoorW.PrintWords Go.Proofs.YtgfkclgpphnjfaaDoorW.PrintLast Go.Proofs.YtgfkclgpphnjfaaDoor.Lm
theorem NatTwo : drawlotlaw10_NatTwo.Pure := by
  intro a b n _ _ ha _ _ hb hn
  have ha := Lim.of_wf ha
  have hb := Lim.of_wf hb
  have hn := wf64 hn
  refine ⟨303000, ?_⟩
  generalize hK : (303000 : Nat) = K
  have same : ∀ x : List Int, x.length ≤ 300 → drawlotref10_Same.f K x x = some true := fun x h => rsame_p _ K (by omega) (by omega)
  unfold drawlotlaw10_NatTwo.f
  rw [alive10 K (by omega), bs, if_pos rfl]
  rcases great_p [a, b] K (by omega) with h | ⟨h, _, g⟩
  · rw [h, bs, if_pos rfl]
  · have la : a.length ≤ 260 := g a (by simp)
    have lb : b.length ≤ 260 := g b (by simp)
    have l1 : (subF a b).1.length ≤ 300 := by
      unfold subF
      split
      · rename_i c
        rw [Bool.and_eq_true] at c
        split
        · simp
        · have := nl_len_mono (a := vl a) (b := vl a - vl b) (by omega) (by have := vl_nonneg hb; omega)
          rw [can_eq c.1] at this
          exact Nat.le_trans this (by omega)
      · simp
    have l2 : (divF a n).1.length ≤ 300 := by
      unfold divF
      split
      · rename_i c
        have := nl_len_mono (a := vl a) (b := vl a / n) (Int.ediv_nonneg (vl_nonneg ha) hn.1) (Int.ediv_le_self _ (vl_nonneg ha))
        rw [can_eq c.1] at this
        exact Nat.le_trans this (by omega)
      · simp
    have l3 : (nl n).length ≤ 300 := Nat.le_trans (nl_len (n := 2) hn.1 (by have := hn.2; simpa using this)) (by omega)
    rw [h, bs, if_neg (by decide), sub_b ha hb K (by omega), bs, rsub_b ha hb K (by omega), bs, div_b ha hn.1 K (by omega), bs, rdiv_b ha hn.1 K (by omega), bs, same _ l1, bs, if_pos rfl, if_pos rfl, same _ l2, bs, if_pos rfl, if_pos rfl, if_pos rfl,
      cmp_b ha hb K (by omega), bs, rcmp_b ha hb K (by omega), bs, if_pos rfl, (same_b a b (by omega) K (by omega)).1, bs, (same_b a b (by omega) K (by omega)).2, bs, if_pos (by simp), right_b ha K (by omega), bs, rright_b ha, bs, if_pos (by simp),
      of_p hn.1 hn.2 K (by omega), bs, rof_p hn.1 hn.2 K (by omega), bs, same _ l3, bs]
end Go.Proofs.YtgfkclgpphnjfaaDoor.Pure
