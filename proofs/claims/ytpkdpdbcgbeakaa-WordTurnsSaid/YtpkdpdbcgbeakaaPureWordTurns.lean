/- A word that is turned is both shifts of it together; the statement over numbers alone. No conditions. -/
import Derived.Test.YtpkdpdbcgbeakaaPWx7
import Derived.Test.YtpkdpdbcgbeakaaLmWord
namespace Go.Proofs.Ytpkdpdbcgbeakaa.Pure
open Go.RowKit Go.Proofs.Ytpkdpdbcgbeakaa.PW Go.Proofs.YtpkdpdbcgbeakaaW.PrintWords Go.Proofs.YtpkdpdbcgbeakaaW.PrintLast Go.Proofs.Ytpkdpdbcgbeakaa.Lm
theorem alive01t (k : Nat) (hk : 20 ≤ k) : drawlotlaw01_alive.f k = some true := at_rounds (g := fun k => drawlotlaw01_alive.f k) (fun k => drawlotlaw01_alive.mono k) (k := 20) (k' := k) hk (r := true) (by decide +kernel)
theorem WordTurns : drawlotlaw01_WordTurns.Pure := by
  intro x n hx hn
  obtain ⟨h0, h1⟩ := wf32 hx
  obtain ⟨n0, n1⟩ := wf8 hn
  refine ⟨50, ?_⟩
  unfold drawlotlaw01_WordTurns.f
  have e : wrap64 (Int.tmod n 32) = n % 32 := by rw [Int.tmod_eq_emod_of_nonneg n0]; exact w64_id (by omega) (by omega)
  rw [alive01t _ (by omega), Option.bind_some, if_pos rfl, e]
  by_cases h : n % 32 = 0
  · rw [if_pos h, rotate_ok h0 h1, Option.bind_some, h]
    show some (rotF x 0 == x) = some true
    rw [rotF_zero]; simp
  · rw [if_neg h, rotate_ok h0 h1, Option.bind_some, right_ok (by omega) (by omega), Option.bind_some, w64_id (x := 32 - n % 32) (by omega) (by omega), left_ok (by omega) (by omega), Option.bind_some]
    have hm : (n % 32).toNat ≤ 32 := by omega
    obtain ⟨r0, r1⟩ := rotF_range h0 h1 hm
    have e1 : (n % 32 % 32).toNat = (n % 32).toNat := by omega
    have e2 : min (n % 32).toNat 32 = (n % 32).toNat := by omega
    have e3 : min (32 - n % 32).toNat 32 = 32 - (n % 32).toNat := by omega
    rw [e1, e2, e3, left_mod x hm]
    have e4 : x / 2 ^ (n % 32).toNat + x % 2 ^ (n % 32).toNat * 2 ^ (32 - (n % 32).toNat) = rotF x (n % 32).toNat := rfl
    rw [e4, Int.emod_eq_of_lt r0 r1]
    simp
end Go.Proofs.Ytpkdpdbcgbeakaa.Pure
