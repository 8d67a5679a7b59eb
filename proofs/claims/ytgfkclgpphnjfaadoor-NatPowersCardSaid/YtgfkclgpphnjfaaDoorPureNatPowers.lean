/- A number's powers, those of two, and its text are the reference's. No conditions. -/
import Derived.Test.YtgfkclgpphnjfaaDoorPNx13
import Derived.Test.YtgfkclgpphnjfaaDoorLmAlive10
namespace Go.Proofs.YtgfkclgpphnjfaaDoor.Pure
open Go.RowKit Go.Proofs.YtgfkclgpphnjfaaDoor.PN Go.Proofs.YtgfkclgpphnjfaaDoorW.PrintWords Go.Proofs.YtgfkclgpphnjfaaDoorW.PrintLast Go.Proofs.YtgfkclgpphnjfaaDoor.Lm
theorem pF_len : ∀ (ls : List (List Int)) (s : Int), (nl s).length ≤ 256 → (pF s ls).1.length ≤ 256 := by
  intro ls
  induction ls with
  | nil => intro s h; exact h
  | cons l ls ih =>
    intro s h
    simp only [pF]
    split
    · simp
    · exact ih _ (by omega)
theorem NatPowers : drawlotlaw10_NatPowers.Pure := by
  intro a m _ _ ha hm
  have ha := Lim.of_wf ha
  have hm := wfi64 hm
  refine ⟨304000, ?_⟩
  generalize hK : (304000 : Nat) = K
  have same : ∀ x : List Int, x.length ≤ 300 → drawlotref10_Same.f K x x = some true := fun x h => rsame_p _ K (by omega) (by omega)
  unfold drawlotlaw10_NatPowers.f
  rw [alive10 K (by omega), bs, if_pos rfl]
  by_cases c : a.length ≤ 60
  · have l1 : (powF a m).1.length ≤ 300 := by
      unfold powF mulF
      split
      · split
        · exact Nat.le_trans (pF_len _ 1 (by rw [nl_one]; decide)) (by omega)
        · simp
      · simp
    have l2 : (twoF m).1.length ≤ 300 := by
      unfold twoF
      split
      · rename_i d
        refine Nat.le_trans (nl_len (n := 256) (Int.pow_nonneg (by omega)) ?_) (by omega)
        have e : (4294967296 : Int) ^ 256 = 2 ^ 8192 := by decide +kernel
        rw [e]
        exact Int.pow_lt_pow_of_lt (by omega) (by omega)
      · simp
    rw [if_neg (by omega), pow_b ha m K (by omega), bs, rpow_b ha m K (by omega), bs, two_b m, bs, rtwo_b m K (by omega), bs, same _ l1, bs, if_pos rfl, if_pos rfl, same _ l2, bs, if_pos rfl, if_pos rfl, text_b ha K (by omega), bs, rtext_b ha K (by omega), bs]
    simp
  · rw [if_pos (by omega)]
end Go.Proofs.YtgfkclgpphnjfaaDoor.Pure
