/- Plain lemmas on four bytes and their number, in the program. No conditions. -/
import Derived.Test.YtpkdpdbcgbeakaaPCx1
import Derived.Test.YtpkdpdbcgbeakaaLmRot
namespace Go.Proofs.Ytpkdpdbcgbeakaa.Lm
open Go.RowKit Go.Proofs.Ytpkdpdbcgbeakaa.PC Go.Proofs.YtpkdpdbcgbeakaaW.PrintWords Go.Proofs.YtpkdpdbcgbeakaaW.PrintLast Go.Proofs.YtpkdpdbcgbeakaaW.PrintMore

theorem get32_step (k : Nat) (acc : Int) (l : List Int) (i : Nat) (hi : i < 4) (ha0 : 0 ≤ acc) (ha1 : acc < 256 ^ i) (hb : 0 ≤ Ar.get 4 l i ∧ Ar.get 4 l i < 256) : word_Get32.l0 (k + 1) acc l i = word_Get32.l0 k (acc * 256 + Ar.get 4 l i) l ((i + 1 : Nat) : Int) := by
  have e4 : wrap64 ((i : Int) + 1) = ((i + 1 : Nat) : Int) := by rw [w64_id (by omega) (by omega)]; omega
  have hlt : acc < 16777216 := by
    rcases (show i = 0 ∨ i = 1 ∨ i = 2 ∨ i = 3 by omega) with rfl | rfl | rfl | rfl <;> simp at ha1 <;> omega
  have e1 : acc * 256 % 4294967296 = acc * 256 := by omega
  have e2 : Ar.get 4 l i % 4294967296 = Ar.get 4 l i := by omega
  have e3 : bits .or .u32 (acc * 256) (Ar.get 4 l i) = acc * 256 + Ar.get 4 l i :=
    bits_join .u32 32 (by decide) wraps_u32 8 _ _ (by omega) (by show acc * 256 % 256 = 0; omega) (by have : (2 : Int) ^ 32 = 4294967296 := rfl; omega) hb.1 hb.2 (by have : (2 : Int) ^ 32 = 4294967296 := rfl; omega)
  rw [word_Get32.l0, if_pos (by omega), if_pos (by omega), e1, e2, e3, e4]
theorem get32_ok (k : Nat) (hk : 5 ≤ k) (b0 b1 b2 b3 : Int) (h : ∀ b ∈ [b0, b1, b2, b3], 0 ≤ b ∧ b < 256) : word_Get32.f k [b0, b1, b2, b3] = some (((b0 * 256 + b1) * 256 + b2) * 256 + b3) := by
  obtain ⟨k, rfl⟩ : ∃ m, k = m + 5 := ⟨k - 5, by omega⟩
  simp only [List.mem_cons, List.not_mem_nil, or_false, forall_eq_or_imp, forall_eq] at h
  obtain ⟨h0, h1, h2, h3⟩ := h
  unfold word_Get32.f
  have s := fun k acc i hi => get32_step k acc [b0, b1, b2, b3] i hi
  rw [show ((0 : Int)) = ((0 : Nat) : Int) from rfl]
  rw [s _ _ 0 (by decide) (by decide) (by decide) h0]
  have z : ((0 : Nat) : Int) * 256 + Ar.get 4 [b0, b1, b2, b3] (0 : Nat) = b0 := by show (0 : Int) * 256 + b0 = b0; omega
  rw [z]
  rw [s _ _ 1 (by decide) (by omega) (by show b0 < 256; omega) h1]
  show word_Get32.l0 _ (b0 * 256 + b1) _ _ = _
  rw [s _ _ 2 (by decide) (by omega) (by show _ < (65536 : Int); omega) h2]
  show word_Get32.l0 _ ((b0 * 256 + b1) * 256 + b2) _ _ = _
  rw [s _ _ 3 (by decide) (by omega) (by show _ < (16777216 : Int); omega) h3]
  show word_Get32.l0 _ (((b0 * 256 + b1) * 256 + b2) * 256 + b3) _ _ = _
  rw [word_Get32.l0, if_neg (by decide)]
end Go.Proofs.Ytpkdpdbcgbeakaa.Lm
