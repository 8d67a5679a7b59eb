/- Plain lemmas on four bytes and their number, in the reference. No conditions. -/
import Derived.Test.YtpkdpdbcgbeakaaPCx5
import Derived.Test.YtpkdpdbcgbeakaaLmG32
namespace Go.Proofs.Ytpkdpdbcgbeakaa.Lm
open Go.RowKit Go.Proofs.Ytpkdpdbcgbeakaa.PC Go.Proofs.YtpkdpdbcgbeakaaW.PrintWords Go.Proofs.YtpkdpdbcgbeakaaW.PrintLast Go.Proofs.YtpkdpdbcgbeakaaW.PrintMore

theorem r01get32_step (k : Nat) (acc : Int) (l : List Int) (i : Nat) (hi : i < 4) (ha0 : 0 ≤ acc) (ha1 : acc < 256 ^ i) (hb : 0 ≤ Ar.get 4 l i ∧ Ar.get 4 l i < 256) : drawlotref01_Get32.l0 (k + 1) acc i l = drawlotref01_Get32.l0 k (acc * 256 + Ar.get 4 l i) ((i + 1 : Nat) : Int) l := by
  have e4 : wrap64 ((i : Int) + 1) = ((i + 1 : Nat) : Int) := by rw [w64_id (by omega) (by omega)]; omega
  have hlt : acc < 16777216 := by
    rcases (show i = 0 ∨ i = 1 ∨ i = 2 ∨ i = 3 by omega) with rfl | rfl | rfl | rfl <;> simp at ha1 <;> omega
  have e1 : (acc * 256 % 4294967296 + Ar.get 4 l i % 4294967296) % 4294967296 = acc * 256 + Ar.get 4 l i := by omega
  rw [drawlotref01_Get32.l0, if_pos (by omega), if_pos (by omega), e1, e4]
theorem r01get32_ok (k : Nat) (hk : 5 ≤ k) (b0 b1 b2 b3 : Int) (h : ∀ b ∈ [b0, b1, b2, b3], 0 ≤ b ∧ b < 256) : drawlotref01_Get32.f k [b0, b1, b2, b3] = some (((b0 * 256 + b1) * 256 + b2) * 256 + b3) := by
  obtain ⟨k, rfl⟩ : ∃ m, k = m + 5 := ⟨k - 5, by omega⟩
  simp only [List.mem_cons, List.not_mem_nil, or_false, forall_eq_or_imp, forall_eq] at h
  obtain ⟨h0, h1, h2, h3⟩ := h
  unfold drawlotref01_Get32.f
  have s := fun k acc i hi => r01get32_step k acc [b0, b1, b2, b3] i hi
  have hz := s (k + 4) 0 0 (by decide) (by decide) (by decide) h0
  have z : (0 : Int) * 256 + Ar.get 4 [b0, b1, b2, b3] (0 : Nat) = b0 := by show (0 : Int) * 256 + b0 = b0; omega
  rw [z] at hz
  refine Eq.trans hz ?_
  rw [s _ _ 1 (by decide) (by omega) (by show b0 < 256; omega) h1]
  show drawlotref01_Get32.l0 _ (b0 * 256 + b1) _ _ = _
  rw [s _ _ 2 (by decide) (by omega) (by show _ < (65536 : Int); omega) h2]
  show drawlotref01_Get32.l0 _ ((b0 * 256 + b1) * 256 + b2) _ _ = _
  rw [s _ _ 3 (by decide) (by omega) (by show _ < (16777216 : Int); omega) h3]
  show drawlotref01_Get32.l0 _ (((b0 * 256 + b1) * 256 + b2) * 256 + b3) _ _ = _
  rw [drawlotref01_Get32.l0, if_neg (by decide)]
end Go.Proofs.Ytpkdpdbcgbeakaa.Lm
