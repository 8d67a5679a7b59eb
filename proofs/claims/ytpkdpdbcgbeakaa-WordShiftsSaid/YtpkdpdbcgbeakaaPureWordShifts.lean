/- Any word, shifted and turned, is the reference's; the statement over numbers alone. No conditions. -/
import Derived.Test.YtpkdpdbcgbeakaaPWx5
import Derived.Test.YtpkdpdbcgbeakaaLmWord
namespace Go.Proofs.Ytpkdpdbcgbeakaa.Pure
open Go.RowKit Go.Proofs.Ytpkdpdbcgbeakaa.PW Go.Proofs.YtpkdpdbcgbeakaaW.PrintWords Go.Proofs.YtpkdpdbcgbeakaaW.PrintLast Go.Proofs.Ytpkdpdbcgbeakaa.Lm
theorem alive01 (k : Nat) (hk : 20 ≤ k) : drawlotlaw01_alive.f k = some true := at_rounds (g := fun k => drawlotlaw01_alive.f k) (fun k => drawlotlaw01_alive.mono k) (k := 20) (k' := k) hk (r := true) (by decide +kernel)
theorem WordShifts : drawlotlaw01_WordShifts.Pure := by
  intro x n hx hn
  obtain ⟨h0, h1⟩ := wf32 hx
  obtain ⟨n0, n1⟩ := wfi64 hn
  refine ⟨50, ?_⟩
  unfold drawlotlaw01_WordShifts.f
  rw [alive01 _ (by omega), Option.bind_some, if_pos rfl, left_ok n0 n1, Option.bind_some, r01left_ok (by omega) h0 h1 n0 n1, Option.bind_some, if_pos rfl, right_ok n0 n1, Option.bind_some, r01right_ok (by omega) h0 h1 n0 n1, Option.bind_some, if_pos rfl,
    rotate_ok h0 h1, Option.bind_some, r01rotate_ok (by omega) h0 h1 n0 n1, Option.bind_some]
  simp
end Go.Proofs.Ytpkdpdbcgbeakaa.Pure
