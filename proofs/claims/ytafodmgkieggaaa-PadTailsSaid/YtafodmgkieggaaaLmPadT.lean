/- Plain lemmas on padded messages: how many blocks any length has, in the reference. No conditions. -/
import Derived.Test.YtafodmgkieggaaaPDx2
import Derived.Test.YtafodmgkieggaaaLmPadR
namespace Go.Proofs.Ytafodmgkieggaaa.Lm
open Go.RowKit Go.Proofs.Ytafodmgkieggaaa.PD Go.Proofs.YtafodmgkieggaaaW.PrintWords Go.Proofs.YtafodmgkieggaaaW.PrintLast Go.Proofs.YtafodmgkieggaaaW.PrintMore

theorem rblocks_ok (k : Nat) (hk : 9 ≤ k) (a : Int) (h0 : 0 ≤ a) (h1 : a < 18446744073709551616) : drawlotref02_Blocks.f k a = some (if a ≥ 2305843009213693952 then 0 else (a + 72) / 64) := by
  obtain ⟨k, rfl⟩ : ∃ m, k = m + 3 := ⟨k - 3, by omega⟩
  unfold drawlotref02_Blocks.f
  by_cases h : a ≥ 2305843009213693952
  · rw [if_pos h, if_pos h]
  · rw [if_neg h, if_neg h, Int.tdiv_eq_ediv_of_nonneg h0, u64w_id (x := a / 64) (by omega) (by omega)]
    rw [drawlotref02_Blocks.l0, u64w_id (x := 64 * (a / 64)) (by omega) (by omega), u64w_id (x := a + 9) (by omega) (by omega), if_pos (by omega), u64w_id (x := a / 64 + 1) (by omega) (by omega)]
    rw [drawlotref02_Blocks.l0, u64w_id (x := 64 * (a / 64 + 1)) (by omega) (by omega), u64w_id (x := a + 9) (by omega) (by omega), u64w_id (x := a / 64 + 1 + 1) (by omega) (by omega)]
    by_cases c : 64 * (a / 64 + 1) < a + 9
    · rw [if_pos c, drawlotref02_Blocks.l0, u64w_id (x := 64 * (a / 64 + 1 + 1)) (by omega) (by omega), u64w_id (x := a + 9) (by omega) (by omega), if_neg (by omega)]
      congr 1
      omega
    · rw [if_neg c]
      congr 1
      omega
end Go.Proofs.Ytafodmgkieggaaa.Lm
