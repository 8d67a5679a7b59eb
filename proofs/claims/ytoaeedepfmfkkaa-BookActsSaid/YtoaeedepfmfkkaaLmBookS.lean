/- The example of book's laws, and how what comes in is told. No conditions. -/
import Derived.Test.YtoaeedepfmfkkaaPBx4
import Derived.Test.YtoaeedepfmfkkaaLmBookR
namespace Go.Proofs.Ytoaeedepfmfkkaa.Lm
open Go.RowKit Go.Proofs.YtoaeedepfmfkkaaW.PrintWords Go.Proofs.YtoaeedepfmfkkaaW.PrintLast Go.Proofs.Ytoaeedepfmfkkaa.PB

theorem alive22 (k : Nat) (hk : 60 ≤ k) : drawlotlaw22_alive.f k = some true := at_rounds (g := fun k => drawlotlaw22_alive.f k) (fun k => drawlotlaw22_alive.mono k) (k := 60) (k' := k) hk (r := true) (by decide +kernel)
theorem VL.of {l : List S27} (h : ∀ x ∈ l, ((x.f0.length = 32 ∧ ∀ x_ ∈ x.f0, (Lit.int .u8 x_).wf = true) ∧ (Lit.int .u64 x.f1).wf = true ∧ (Lit.int .u64 x.f2).wf = true)) : VL l := fun x hx => by
  obtain ⟨⟨h1, _⟩, h2, h3⟩ := h x hx
  exact ⟨h1, wf64 h2, wf64 h3⟩
theorem sq_le {n m : Nat} (h : n ≤ m) : n * (n + 2) ≤ m * (m + 2) := Nat.mul_le_mul h (by omega)
end Go.Proofs.Ytoaeedepfmfkkaa.Lm
