/- Numbers come back of their bytes, bytes of their numbers, words of their turns; the statement over numbers and lists alone. No conditions. -/
import Derived.Test.YtpkdpdbcgbeakaaPWx6
import Derived.Test.YtpkdpdbcgbeakaaLmBytes
namespace Go.Proofs.Ytpkdpdbcgbeakaa.Pure
open Go.RowKit Go.Proofs.Ytpkdpdbcgbeakaa.PW Go.Proofs.YtpkdpdbcgbeakaaW.PrintWords Go.Proofs.YtpkdpdbcgbeakaaW.PrintLast Go.Proofs.Ytpkdpdbcgbeakaa.Lm
theorem alive01b (k : Nat) (hk : 20 ≤ k) : drawlotlaw01_alive.f k = some true := at_rounds (g := fun k => drawlotlaw01_alive.f k) (fun k => drawlotlaw01_alive.mono k) (k := 20) (k' := k) hk (r := true) (by decide +kernel)
theorem list8 {l : List Int} (h : l.length = 8) : ∃ b0 b1 b2 b3 b4 b5 b6 b7, l = [b0, b1, b2, b3, b4, b5, b6, b7] := by
  match l, h with
  | [b0, b1, b2, b3, b4, b5, b6, b7], _ => exact ⟨_, _, _, _, _, _, _, _, rfl⟩
theorem WordBack : drawlotlaw01_WordBack.Pure := by
  intro x l n hx hl hn
  obtain ⟨h0, h1⟩ := wf64 hx
  obtain ⟨n0, n1⟩ := wf8 hn
  obtain ⟨hlen, hw⟩ := hl
  obtain ⟨b0, b1, b2, b3, b4, b5, b6, b7, rfl⟩ := list8 hlen
  have hb : ∀ b ∈ [b0, b1, b2, b3, b4, b5, b6, b7], 0 ≤ b ∧ b < 256 := fun b h => wf8 (hw b h)
  refine ⟨50, ?_⟩
  unfold drawlotlaw01_WordBack.f
  have ey : IntKind.u64.wrap (Int.tdiv x 4294967296) % 4294967296 = x / 4294967296 := by
    rw [Int.tdiv_eq_ediv_of_nonneg h0, u64w]; omega
  have y0 : 0 ≤ x / 4294967296 := by omega
  have y1 : x / 4294967296 < 4294967296 := by omega
  rw [alive01b _ (by omega), Option.bind_some, if_pos rfl, put64_ok _ (by omega), Option.bind_some,
    get64_ok _ (by omega) _ _ _ _ _ _ _ _ (by simp only [List.mem_cons, List.not_mem_nil, or_false, forall_eq_or_imp, forall_eq]; omega), Option.bind_some, if_pos (by omega), get64_ok _ (by omega) _ _ _ _ _ _ _ _ hb, Option.bind_some, put64_ok _ (by omega), Option.bind_some]
  simp only [List.mem_cons, List.not_mem_nil, or_false, forall_eq_or_imp, forall_eq] at hb
  obtain ⟨c0, c1, c2, c3, c4, c5, c6, c7⟩ := hb
  rw [if_pos]
  · rw [ey]
    generalize x / 4294967296 = y at *
    have ep : word_Put32.f y = some [y / 16777216 % 256, y / 65536 % 256, y / 256 % 256, y % 256] := rfl
    rw [ep, Option.bind_some, get32_ok _ (by omega) _ _ _ _ (by simp only [List.mem_cons, List.not_mem_nil, or_false, forall_eq_or_imp, forall_eq]; omega), Option.bind_some, if_pos (by omega),
      w64_id (x := n) (by omega) (by omega), w64_id (x := -n) (by omega) (by omega), rotate_ok y0 y1, Option.bind_some]
    obtain ⟨r0, r1⟩ := rotF_range y0 y1 (m := (n % 32).toNat) (by omega)
    rw [rotate_ok r0 r1, Option.bind_some]
    by_cases hz : n % 32 = 0
    · rw [show (n % 32).toNat = 0 by omega, show (-n % 32).toNat = 0 by omega, rotF_zero, rotF_zero]; simp
    · rw [show (-n % 32).toNat = 32 - (n % 32).toNat by omega, rotF_back y0 y1 (by omega)]; simp
  · unfold Ar.eqb
    rw [beq_iff_eq]
    simp only [Ar.fit, List.take, List.length_cons, List.length_nil, Nat.reduceAdd, Nat.sub_self, List.replicate, List.append_nil, List.cons.injEq, and_true]
    refine ⟨?_, ?_, ?_, ?_, ?_, ?_, ?_, ?_⟩ <;> omega
end Go.Proofs.Ytpkdpdbcgbeakaa.Pure
