/- In the table of stakes each place owns just as often its stake as there are places; the statement over lists alone. No conditions. -/
import Derived.Test.YtbafkkbbjacekaaPBx13
import Derived.Test.YtbafkkbbjacekaaLmAliasO
import Derived.Test.YtbafkkbbjacekaaLmAliasT
namespace Go.Proofs.Ytbafkkbbjacekaa.Pure
open Go.RowKit Go.Proofs.Ytbafkkbbjacekaa.PB Go.Proofs.YtbafkkbbjacekaaW.PrintWords Go.Proofs.YtbafkkbbjacekaaW.PrintLast Go.Proofs.Ytbafkkbbjacekaa.Lm
theorem alive14 (k : Nat) (hk : 30 ≤ k) : drawlotlaw14_alive.f k = some true := at_rounds (g := fun k => drawlotlaw14_alive.f k) (fun k => drawlotlaw14_alive.mono k) (k := 30) (k' := k) hk (r := true) (by decide +kernel)
theorem owns_all {l : List Int} (hl : U64 l) (hT : 0 < l.sum) (hb : (l.length : Int) * l.sum < 9223372036854775808) (hm : l.length < 301) : ∀ (d k n : Nat), n + d = l.length → d + l.length < k →
    drawlotlaw14_AliasOwns.l0 k l (n : Int) l.sum (tabS l) = some true := by
  obtain ⟨h1, h2, h3, h4⟩ := tab_right hl hT hb
  have hr := rightS_lt h2
  have hle : l.sum ≤ (l.length : Int) * l.sum := by
    have := Int.mul_le_mul_of_nonneg_right (show (1 : Int) ≤ l.length by omega) (show 0 ≤ l.sum by omega)
    omega
  intro d
  induction d with
  | zero =>
    intro k n hn hk
    obtain ⟨k, rfl⟩ : ∃ m, k = m + 1 := ⟨k - 1, by omega⟩
    simp only [drawlotlaw14_AliasOwns.l0]
    rw [if_neg (by omega)]
  | succ d ih =>
    intro k n hn hk
    obtain ⟨k, rfl⟩ : ∃ m, k = m + 1 := ⟨k - 1, by omega⟩
    simp only [drawlotlaw14_AliasOwns.l0]
    have hp : 0 ≤ (l.length : Int) * rd l (n : Int) := Int.mul_nonneg (by omega) (hl.rd _).1
    have hq : (l.length : Int) * rd l (n : Int) ≤ (l.length : Int) * l.sum := Int.mul_le_mul_of_nonneg_left (rd_le_sum hl _) (by omega)
    have ho : ownsS l.sum (tabS l) (n : Int) = ((l.length : Int) * rd l (n : Int), 0) := by
      unfold ownsS
      rw [if_pos h2, if_pos (show 0 ≤ (n : Int) ∧ (n : Int) < ((tabS l).length : Int) by omega), h4 (n : Int) (by omega) (by omega), u64w_id (by omega) (by omega)]
    rw [if_pos (by omega), owns_ok k l.sum (tabS l) (by omega) (by omega) (by omega) h3, bs, ho, if_pos rfl, if_pos (by omega), u64w_id (x := (l.length : Int)) (by omega) (by omega), u64w_id (by omega) (by omega), if_pos rfl, stepC (m := l.length) (by omega) (by omega)]
    exact ih k (n + 1) (by omega) (by omega)
theorem AliasOwns : drawlotlaw14_AliasOwns.Pure := by
  intro l hm hb hw
  have hl := U64.of_wf hw
  have hs := sum_nonneg hl
  refine ⟨3 * l.length + 40, ?_⟩
  unfold drawlotlaw14_AliasOwns.f
  rw [alive14 _ (by omega), bs, if_pos rfl]
  by_cases h : (l.length : Int) > 300
  · rw [if_pos h]
  · rw [if_neg h, buildA_ok _ l hl (by omega) (by omega), bs]
    unfold buildS
    by_cases z : l.length = 0
    · rw [if_pos z, if_neg (by decide)]; rfl
    · rw [if_neg z]
      by_cases c : l.sum < 9223372036854775808
      · rw [if_pos c]
        by_cases e : l.sum = 0
        · rw [if_pos e, if_neg (by decide)]; rfl
        · rw [if_neg e]
          by_cases g : (l.length : Int) * l.sum < 9223372036854775808
          · rw [if_pos g]
            obtain ⟨h1, h2, h3, h4⟩ := tab_right hl (by omega) g
            rw [if_pos rfl, rright_ok _ l.sum (tabS l) (by omega) (by omega) (by omega), bs, if_pos h2, if_pos (by rw [h1])]
            exact owns_all hl (by omega) g (by omega) l.length _ 0 (by omega) (by omega)
          · rw [if_neg g, if_neg (by decide)]; rfl
      · rw [if_neg c, if_neg (by decide)]; rfl
end Go.Proofs.Ytbafkkbbjacekaa.Pure
