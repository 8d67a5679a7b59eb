/- Any number's bytes, any bytes' number, and how many bits a number has, are the reference's; the statement over numbers and lists alone. No conditions. -/
import Derived.Test.YtpkdpdbcgbeakaaPWx8
import Derived.Test.YtpkdpdbcgbeakaaLmBytesR
namespace Go.Proofs.Ytpkdpdbcgbeakaa.Pure
open Go.RowKit Go.Proofs.Ytpkdpdbcgbeakaa.PW Go.Proofs.YtpkdpdbcgbeakaaW.PrintWords Go.Proofs.YtpkdpdbcgbeakaaW.PrintLast Go.Proofs.Ytpkdpdbcgbeakaa.Lm
theorem alive01y (k : Nat) (hk : 20 ≤ k) : drawlotlaw01_alive.f k = some true := at_rounds (g := fun k => drawlotlaw01_alive.f k) (fun k => drawlotlaw01_alive.mono k) (k := 20) (k' := k) hk (r := true) (by decide +kernel)
theorem list8y {l : List Int} (h : l.length = 8) : ∃ b0 b1 b2 b3 b4 b5 b6 b7, l = [b0, b1, b2, b3, b4, b5, b6, b7] := by
  match l, h with
  | [b0, b1, b2, b3, b4, b5, b6, b7], _ => exact ⟨_, _, _, _, _, _, _, _, rfl⟩
theorem WordBytes : drawlotlaw01_WordBytes.Pure := by
  intro x l hx hl
  obtain ⟨h0, h1⟩ := wf64 hx
  obtain ⟨hlen, hw⟩ := hl
  obtain ⟨b0, b1, b2, b3, b4, b5, b6, b7, rfl⟩ := list8y hlen
  have hb : ∀ b ∈ [b0, b1, b2, b3, b4, b5, b6, b7], 0 ≤ b ∧ b < 256 := fun b h => wf8 (hw b h)
  refine ⟨80, ?_⟩
  unfold drawlotlaw01_WordBytes.f
  have hq : ∀ b ∈ [b0, b1, b2, b3], 0 ≤ b ∧ b < 256 := fun b h => hb b (by simp only [List.mem_cons, List.not_mem_nil, or_false] at h ⊢; omega)
  have ey : Int.tmod x 4294967296 % 4294967296 = x % 4294967296 := by rw [Int.tmod_eq_emod_of_nonneg h0]; omega
  have g4 : [Ar.get 8 [b0, b1, b2, b3, b4, b5, b6, b7] 0, Ar.get 8 [b0, b1, b2, b3, b4, b5, b6, b7] 1, Ar.get 8 [b0, b1, b2, b3, b4, b5, b6, b7] 2, Ar.get 8 [b0, b1, b2, b3, b4, b5, b6, b7] 3] = [b0, b1, b2, b3] := rfl
  obtain ⟨r, hr⟩ := bits_ends 64 80 x 0 (by decide) h0 h1
  have hr1 : word_Bits.f 80 x = some r := hr
  have hr2 : drawlotref01_Bits.f 80 x = some r := by unfold drawlotref01_Bits.f; rw [bits_same 80 x 0 h0 h1]; exact hr
  have ep : ∀ y : Int, word_Put32.f y = some [y / 16777216 % 256, y / 65536 % 256, y / 256 % 256, y % 256] := fun _ => rfl
  have eq4 : ∀ (n : Nat) (z : List Int), Ar.eqb n z z = true := fun n z => by unfold Ar.eqb; exact beq_self_eq_true _
  rw [alive01y _ (by omega), Option.bind_some, if_pos rfl, put64_ok _ (by omega), Option.bind_some, r01put64_ok _ (by omega) x h0 h1, Option.bind_some, if_pos (eq4 _ _),
    get64_ok _ (by omega) _ _ _ _ _ _ _ _ hb, Option.bind_some, r01get64_ok _ (by omega) _ _ _ _ _ _ _ _ hb, Option.bind_some, if_pos rfl, ey, put32_eq _ (by omega) (by omega), ep, Option.bind_some, Option.bind_some, if_pos (eq4 _ _), g4,
    get32_ok _ (by omega) _ _ _ _ hq, Option.bind_some, r01get32_ok _ (by omega) _ _ _ _ hq, Option.bind_some, if_pos rfl, hr1, Option.bind_some, hr2, Option.bind_some]
  simp
end Go.Proofs.Ytpkdpdbcgbeakaa.Pure
