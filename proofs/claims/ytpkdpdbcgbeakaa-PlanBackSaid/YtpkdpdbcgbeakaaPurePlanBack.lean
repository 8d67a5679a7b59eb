/- A block comes back of its plan's first words, words of their block; the statement over numbers and lists alone. No conditions. -/
import Derived.Test.YtpkdpdbcgbeakaaPCx10
import Derived.Test.YtpkdpdbcgbeakaaLmPlan
namespace Go.Proofs.Ytpkdpdbcgbeakaa.Pure
open Go.RowKit Go.Proofs.Ytpkdpdbcgbeakaa.PC Go.Proofs.YtpkdpdbcgbeakaaW.PrintWords Go.Proofs.YtpkdpdbcgbeakaaW.PrintLast Go.Proofs.Ytpkdpdbcgbeakaa.Lm
theorem pb_end (b l hd v : List Int) (hb : InR 64 256 b) (hh : ∀ q : Int, 0 ≤ q → q < 16 → Ar.get 16 hd q = word4 b q) (hv : ∀ q : Int, 0 ≤ q → q < 16 → Ar.get 64 v q = Ar.get 16 l q) : ∀ (d k i : Nat), i + d = 16 → d + 30 ≤ k →
    drawlotlaw03_PlanBack.l1 k i b l hd v = some true
  | 0, k, i, hi, hk => by
    obtain ⟨k, rfl⟩ : ∃ m, k = m + 1 := ⟨k - 1, by omega⟩
    obtain ⟨b', e, _, h'⟩ := Back_ok hd (k := k) (by omega)
    simp only [drawlotlaw03_PlanBack.l1]
    rw [if_neg (by omega), e, bs, back_same hb hh h']
  | d + 1, k, i, hi, hk => by
    obtain ⟨k, rfl⟩ : ∃ m, k = m + 1 := ⟨k - 1, by omega⟩
    have e1 : wrap64 ((i : Int) + 1) = ((i + 1 : Nat) : Int) := by rw [w64_id (by omega) (by omega)]; omega
    simp only [drawlotlaw03_PlanBack.l1]
    rw [if_pos (by omega), if_pos (by omega), if_pos (by omega), if_pos (hv i (by omega) (by omega)), e1]
    exact pb_end b l hd v hb hh hv d k (i + 1) (by omega) (by omega)
theorem pb_loop (b l w : List Int) (hb : InR 64 256 b) (hl : InR 16 4294967296 l) (hw : ∀ q : Int, 0 ≤ q → q < 16 → Ar.get 64 w q = word4 b q) : ∀ (d k i : Nat) (hd : List Int), i + d = 16 → d + 130 ≤ k → (∀ q : Int, 0 ≤ q → q < i → Ar.get 16 hd q = word4 b q) →
    drawlotlaw03_PlanBack.l0 k i b l w hd = some true
  | 0, k, i, hd, hi, hk, hh => by
    obtain ⟨k, rfl⟩ : ∃ m, k = m + 1 := ⟨k - 1, by omega⟩
    obtain ⟨b', e, hr, h'⟩ := Back_ok l (k := k) (by omega)
    obtain ⟨v, e2, _, hg⟩ := Of_ok hr (k := k) (by omega)
    simp only [drawlotlaw03_PlanBack.l0]
    rw [if_neg (by omega), e, bs, e2, bs]
    have hv : ∀ q : Int, 0 ≤ q → q < 16 → Ar.get 64 v q = Ar.get 16 l q := fun q q0 q1 => by rw [(hg q q0 (by omega)).1 q1]; exact word_same hl (h' q q0 q1)
    exact pb_end b l hd v hb (fun q q0 q1 => hh q q0 (by omega)) hv 16 k 0 (by omega) (by omega)
  | d + 1, k, i, hd, hi, hk, hh => by
    obtain ⟨k, rfl⟩ : ∃ m, k = m + 1 := ⟨k - 1, by omega⟩
    have e1 : wrap64 ((i : Int) + 1) = ((i + 1 : Nat) : Int) := by rw [w64_id (by omega) (by omega)]; omega
    simp only [drawlotlaw03_PlanBack.l0]
    rw [if_pos (by omega), if_pos (by omega), if_pos (by omega), e1]
    refine pb_loop b l w hb hl hw d k (i + 1) _ (by omega) (by omega) fun q q0 q1 => ?_
    rw [get_set (by omega) (by omega) q0]
    split
    · rename_i h; subst h; exact hw _ q0 (by omega)
    · exact hh q q0 (by omega)
theorem PlanBack : drawlotlaw03_PlanBack.Pure := by
  intro b l hb hl
  have hb' : InR 64 256 b := InR.of_mem (by decide) hb.1 (fun x hx => wf8 (hb.2 x hx))
  have hl' : InR 16 4294967296 l := InR.of_mem (by decide) hl.1 (fun x hx => wf32 (hl.2 x hx))
  refine ⟨200, ?_⟩
  obtain ⟨w, e, _, hg⟩ := Of_ok hb' (k := 200) (by omega)
  unfold drawlotlaw03_PlanBack.f
  rw [alive03 _ (by omega), bs, if_pos rfl, e, bs]
  exact pb_loop b l w hb' hl' (fun q q0 q1 => (hg q q0 (by omega)).1 q1) 16 200 0 _ (by omega) (by omega) (fun q q0 q1 => by omega)
end Go.Proofs.Ytpkdpdbcgbeakaa.Pure
