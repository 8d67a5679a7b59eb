/- A product is a sum of as many; the statement over whole numbers alone. No conditions. -/
import Derived.Test.YtngacagfmpndmaaPFx11
import Derived.Test.YtngacagfmpndmaaLmSafe
namespace Go.Proofs.Ytngacagfmpndmaa.Pure
open Go.RowKit Go.Proofs.Ytngacagfmpndmaa.PF Go.Proofs.YtngacagfmpndmaaW.PrintWords Go.Proofs.YtngacagfmpndmaaW.PrintLast Go.Proofs.Ytngacagfmpndmaa.Lm
theorem sum_rep (a : Int) (n : Nat) : (List.replicate n a).sum = a * n := by
  induction n with
  | zero => simp
  | succ n ih => rw [List.replicate_succ, List.sum_cons, ih, Int.natCast_add, Int.mul_add]; simp; omega
theorem sums_l (a : Int) (ha : 0 ≤ a ∧ a < 18446744073709551616) (n : Nat) (hn : n < 256) : ∀ (d k m : Nat), m + d = n → d + n + 1 < k →
    drawlotlaw09_SafeSums.l0 k a (n : Int) (List.replicate m a) (m : Int) = some true := by
  have hu : U64 (List.replicate n a) := fun x hx => by rw [List.eq_of_mem_replicate hx]; exact ha
  intro d
  induction d with
  | zero =>
    intro k m hm hk
    obtain ⟨k, rfl⟩ : ∃ q, k = q + 1 := ⟨k - 1, by omega⟩
    obtain rfl : m = n := by omega
    simp only [drawlotlaw09_SafeSums.l0]
    rw [w64_id (by omega) (by omega), if_neg (by omega), u64w_id (by omega) (by omega), mul_ok ha (by omega), total_ok k _ hu (by simp; omega) (by simp; omega), sum_rep]
    simp
  | succ d ih =>
    intro k m hm hk
    obtain ⟨k, rfl⟩ : ∃ q, k = q + 1 := ⟨k - 1, by omega⟩
    simp only [drawlotlaw09_SafeSums.l0]
    rw [w64_id (x := (n : Int)) (by omega) (by omega), if_pos (by omega), if_pos (by simp; omega), w64_id (by omega) (by omega)]
    have e : List.replicate m a ++ [a] = List.replicate (m + 1) a := by rw [List.replicate_succ']
    rw [e]
    exact ih k (m + 1) (by omega) (by omega)
theorem alive_on (k : Nat) (hk : 5 ≤ k) : drawlotlaw09_alive.f k = some true := at_rounds (g := fun k => drawlotlaw09_alive.f k) (fun k => drawlotlaw09_alive.mono k) (k := 5) (k' := k) hk (r := true) (by decide +kernel)
theorem sums_at (a : Int) (n : Nat) (ha : 0 ≤ a ∧ a < 18446744073709551616) (hn : n < 256) : drawlotlaw09_SafeSums.l0 (n + n + 5) a (n : Int) [] 0 = some true := by
  have h := sums_l a ha n (by omega) n (n + n + 5) 0 (by omega) (by omega)
  rw [List.replicate_zero, Int.natCast_zero] at h
  exact h
theorem SafeSums : drawlotlaw09_SafeSums.Pure := by
  intro a b ha hb
  have ha := wf64 ha
  have hb := wf8 hb
  obtain ⟨n, rfl⟩ := Int.eq_ofNat_of_zero_le hb.1
  refine ⟨n + n + 5, ?_⟩
  unfold drawlotlaw09_SafeSums.f
  rw [alive_on (n + n + 5) (by omega), Option.bind_some, if_pos rfl]
  exact sums_at a n ha (by omega)
end Go.Proofs.Ytngacagfmpndmaa.Pure
