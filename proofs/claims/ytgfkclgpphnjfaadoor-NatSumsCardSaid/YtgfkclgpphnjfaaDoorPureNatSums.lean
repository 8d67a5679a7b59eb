/- Numbers' sum and product are the reference's. No conditions. -/
import Derived.Test.YtgfkclgpphnjfaaDoorPNx11
import Derived.Test.YtgfkclgpphnjfaaDoorLmAlive10
namespace Go.Proofs.YtgfkclgpphnjfaaDoor.Pure
open Go.RowKit Go.Proofs.YtgfkclgpphnjfaaDoor.PN Go.Proofs.YtgfkclgpphnjfaaDoorW.PrintWords Go.Proofs.YtgfkclgpphnjfaaDoorW.PrintLast Go.Proofs.YtgfkclgpphnjfaaDoor.Lm
theorem sF_len : ∀ (ls : List (List Int)) (s : Int), (nl s).length ≤ 256 → (sF s ls).1.length ≤ 256 := by
  intro ls
  induction ls with
  | nil => intro s h; exact h
  | cons l ls ih =>
    intro s h
    simp only [sF]
    split
    · simp
    · exact ih _ (by omega)
theorem pF_len1 : ∀ (ls : List (List Int)) (s : Int), (nl s).length ≤ 256 → (pF s ls).1.length ≤ 256 := by
  intro ls
  induction ls with
  | nil => intro s h; exact h
  | cons l ls ih =>
    intro s h
    simp only [pF]
    split
    · simp
    · exact ih _ (by omega)
theorem ends_l (ls : List (List Int)) (hl : ls.length ≤ 6) (h : ∀ l ∈ ls, l.length ≤ 260) (x y : List Int) (hx : x.length ≤ 300) (hy : y.length ≤ 300) (e f : Int) : ∀ (d k n : Nat), n + d = ls.length → d + 400 < k → drawlotlaw10_NatSums.l1 k ls ls x e x e y f y f (n : Int) = some true := by
  intro d
  induction d with
  | zero =>
    intro k n hn hk
    obtain ⟨k, rfl⟩ : ∃ m, k = m + 1 := ⟨k - 1, by omega⟩
    simp only [drawlotlaw10_NatSums.l1]
    rw [if_neg (by omega), rsame_p x k (by omega) (by omega), bs, if_pos rfl, if_pos trivial, rsame_p y k (by omega) (by omega), bs, if_pos rfl]
    simp
  | succ d ih =>
    intro k n hn hk
    obtain ⟨k, rfl⟩ : ∃ m, k = m + 1 := ⟨k - 1, by omega⟩
    have hi : n < ls.length := by omega
    have := h _ (List.getElem_mem hi)
    simp only [drawlotlaw10_NatSums.l1]
    rw [if_pos (by omega), if_pos (by omega), if_pos (by omega), rd_L1_get hi, rsame_p _ k (by omega) (by omega), bs, if_pos rfl, nat_up (by omega)]
    exact ih k (n + 1) (by omega) (by omega)
theorem own_l (ls : List (List Int)) (hL : Lims ls) (hl : ls.length ≤ 6) (h : ∀ l ∈ ls, l.length ≤ 260) : ∀ (d k n : Nat), n + d = ls.length → d + 302000 < k → drawlotlaw10_NatSums.l0 k ls (ls.take n) (n : Int) = some true := by
  intro d
  induction d with
  | zero =>
    intro k n hn hk
    obtain ⟨k, rfl⟩ : ∃ m, k = m + 1 := ⟨k - 1, by omega⟩
    have l1 : (addF ls).1.length ≤ 300 := by
      unfold addF
      split
      · exact Nat.le_trans (sF_len _ 0 (by rw [nl_zero]; decide)) (by omega)
      · simp
    have l2 : (mulF ls).1.length ≤ 300 := by
      unfold mulF
      split
      · exact Nat.le_trans (pF_len1 _ 1 (by rw [nl_one]; decide)) (by omega)
      · simp
    simp only [drawlotlaw10_NatSums.l0]
    rw [if_neg (by omega), List.take_of_length_le (by omega), (add_b hL (by omega) k (by omega)).1, bs, (add_b hL (by omega) k (by omega)).2, bs, (mul_b hL (by omega) k (by omega)).1, bs, (mul_b hL (by omega) k (by omega)).2, bs]
    exact ends_l ls hl h _ _ l1 l2 _ _ ls.length k 0 (by omega) (by omega)
  | succ d ih =>
    intro k n hn hk
    obtain ⟨k, rfl⟩ : ∃ m, k = m + 1 := ⟨k - 1, by omega⟩
    have hi : n < ls.length := by omega
    have := h _ (List.getElem_mem hi)
    simp only [drawlotlaw10_NatSums.l0]
    rw [if_pos (by omega), bs, if_pos (by omega), rd_L1_get hi, if_pos (by simp; omega), if_pos (by rw [List.length_take]; omega), List.nil_append, nat_up (by omega), List.take_append_getElem hi]
    exact ih k (n + 1) (by omega) (by omega)
theorem NatSums : drawlotlaw10_NatSums.Pure := by
  intro ls hw
  have hL : Lims ls := fun l hl => Lim.of_wf (hw.2 l hl).2
  refine ⟨304000, ?_⟩
  generalize hK : (304000 : Nat) = K
  unfold drawlotlaw10_NatSums.f
  rw [alive10 K (by omega), bs, if_pos rfl]
  rcases great_p ls K (by omega) with h | ⟨h, g1, g2⟩
  · rw [h, bs, if_pos rfl]
  · rw [h, bs, if_neg (by decide)]
    exact own_l ls hL g1 g2 ls.length K 0 (by omega) (by omega)
end Go.Proofs.YtgfkclgpphnjfaaDoor.Pure
