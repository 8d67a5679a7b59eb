/- A block comes back of any sixteen words of its plan that follow each other; the statement over numbers and lists alone. No conditions. -/
import Derived.Test.YtpkdpdbcgbeakaaPCx11
import Derived.Test.YtpkdpdbcgbeakaaLmPlan
namespace Go.Proofs.Ytpkdpdbcgbeakaa.Pure
open Go.RowKit Go.Proofs.Ytpkdpdbcgbeakaa.PC Go.Proofs.YtpkdpdbcgbeakaaW.PrintWords Go.Proofs.YtpkdpdbcgbeakaaW.PrintLast Go.Proofs.Ytpkdpdbcgbeakaa.Lm
theorem pa_end (b u : List Int) (hb : InR 64 256 b) (hu : ∀ q : Int, 0 ≤ q → q < 16 → Ar.get 64 u q = word4 b q) : ∀ (d k i : Nat) (hd : List Int), i + d = 16 → d + 30 ≤ k → (∀ q : Int, 0 ≤ q → q < i → Ar.get 16 hd q = word4 b q) →
    drawlotlaw03_PlanAny.l2 k i b u hd = some true
  | 0, k, i, hd, hi, hk, hh => by
    obtain ⟨k, rfl⟩ : ∃ m, k = m + 1 := ⟨k - 1, by omega⟩
    obtain ⟨b', e, _, h'⟩ := Back_ok hd (k := k) (by omega)
    simp only [drawlotlaw03_PlanAny.l2]
    rw [if_neg (by omega), e, bs, back_same hb (fun q q0 q1 => hh q q0 (by omega)) h']
  | d + 1, k, i, hd, hi, hk, hh => by
    obtain ⟨k, rfl⟩ : ∃ m, k = m + 1 := ⟨k - 1, by omega⟩
    have e1 : wrap64 ((i : Int) + 1) = ((i + 1 : Nat) : Int) := by rw [w64_id (by omega) (by omega)]; omega
    simp only [drawlotlaw03_PlanAny.l2]
    rw [if_pos (by omega), if_pos (by omega), if_pos (by omega), e1]
    refine pa_end b u hb hu d k (i + 1) _ (by omega) (by omega) fun q q0 q1 => ?_
    rw [get_set (by omega) (by omega) q0]
    split
    · rename_i h; subst h; exact hu _ q0 (by omega)
    · exact hh q q0 (by omega)
/-- Words number i and on are known: those ahead of them, one by one. -/
theorem pa_down (b w : List Int) (at_ : Nat) (ha : at_ < 49) (hb : InR 64 256 b) (hw : InR 64 4294967296 w) (hg : ∀ j : Int, 0 ≤ j → j < 64 → Lm.Good b w j) : ∀ (i k : Nat) (u : List Int), i ≤ at_ → i + 60 ≤ k → InR 64 4294967296 u → (∀ j : Int, i ≤ j → j < at_ + 16 → Ar.get 64 u j = Ar.get 64 w j) →
    drawlotlaw03_PlanAny.l1 k ((i : Int) - 1) b u = some true
  | 0, k, u, hi, hk, hr, hu => by
    obtain ⟨k, rfl⟩ : ∃ m, k = m + 1 := ⟨k - 1, by omega⟩
    simp only [drawlotlaw03_PlanAny.l1]
    rw [if_neg (by omega)]
    refine pa_end b u hb (fun q q0 q1 => ?_) 16 k 0 _ (by omega) (by omega) (fun q q0 q1 => by omega)
    rw [hu q (by omega) (by omega)]
    exact (hg q q0 (by omega)).1 q1
  | i + 1, k, u, hi, hk, hr, hu => by
    obtain ⟨k, rfl⟩ : ∃ m, k = m + 1 := ⟨k - 1, by omega⟩
    have e0 : ((i + 1 : Nat) : Int) - 1 = (i : Int) := by omega
    rw [e0]
    have e16 : wrap64 ((i : Int) + 16) = i + 16 := w64_id (by omega) (by omega)
    have e14 : wrap64 ((i : Int) + 14) = i + 14 := w64_id (by omega) (by omega)
    have e9 : wrap64 ((i : Int) + 9) = i + 9 := w64_id (by omega) (by omega)
    have e1 : wrap64 ((i : Int) + 1) = i + 1 := w64_id (by omega) (by omega)
    have em : wrap64 ((i : Int) - 1) = i - 1 := w64_id (by omega) (by omega)
    have hn := (hg ((i : Int) + 16) (by omega) (by omega)).2 (by omega)
    unfold next at hn
    rw [show (i : Int) + 16 - 2 = i + 14 by omega, show (i : Int) + 16 - 7 = i + 9 by omega, show (i : Int) + 16 - 15 = i + 1 by omega, show (i : Int) + 16 - 16 = i by omega] at hn
    have r16 := hu ((i : Int) + 16) (by omega) (by omega)
    have r14 := hu ((i : Int) + 14) (by omega) (by omega)
    have r9 := hu ((i : Int) + 9) (by omega) (by omega)
    have r1 := hu ((i : Int) + 1) (by omega) (by omega)
    have hv : (((Ar.get 64 w ((i : Int) + 16) - sig (Ar.get 64 w ((i : Int) + 14)) 17 19 10) % 4294967296 - Ar.get 64 w ((i : Int) + 9)) % 4294967296 - sig (Ar.get 64 w ((i : Int) + 1)) 7 18 3) % 4294967296 = Ar.get 64 w i := by
      have a0 := hw (i : Int); have a1 := hw ((i : Int) + 9); have a2 := sig_range (Ar.get 64 w ((i : Int) + 14)) 17 19 10; have a3 := sig_range (Ar.get 64 w ((i : Int) + 1)) 7 18 3
      rw [hn]
      generalize sig (Ar.get 64 w ((i : Int) + 14)) 17 19 10 = s2 at *
      generalize sig (Ar.get 64 w ((i : Int) + 1)) 7 18 3 = s1 at *
      generalize Ar.get 64 w (i : Int) = x at *
      generalize Ar.get 64 w ((i : Int) + 9) = y at *
      clear hn hu hg
      omega
    simp only [drawlotlaw03_PlanAny.l1]
    rw [if_pos (by omega), e16, if_pos (by omega), if_pos (by omega), e14, if_pos (by omega), if_pos (by omega), Second_ok (hr _).1 (hr _).2, bs, e9, if_pos (by omega), if_pos (by omega), e1, if_pos (by omega), if_pos (by omega), First_ok (hr _).1 (hr _).2, bs, if_pos (by omega), if_pos (by omega), r16, r14, r9, r1, hv, em]
    refine pa_down b w at_ ha hb hw hg i k _ (by omega) (by omega) (hr.set (by omega) (by omega) (hw _)) fun j j0 j1 => ?_
    rw [get_set (by omega) (by omega) (by omega)]
    split
    · rename_i h; subst h; rfl
    · exact hu j (by omega) j1
theorem pa_loop (b w : List Int) (at_ : Nat) (ha : at_ < 49) (hb : InR 64 256 b) (hw : InR 64 4294967296 w) (hg : ∀ j : Int, 0 ≤ j → j < 64 → Lm.Good b w j) : ∀ (d k i : Nat) (u : List Int), i + d = 16 → d + 120 ≤ k → InR 64 4294967296 u → (∀ j : Int, at_ ≤ j → j < at_ + i → Ar.get 64 u j = Ar.get 64 w j) →
    drawlotlaw03_PlanAny.l0 k at_ i b w u = some true
  | 0, k, i, u, hi, hk, hr, hu => by
    obtain ⟨k, rfl⟩ : ∃ m, k = m + 1 := ⟨k - 1, by omega⟩
    simp only [drawlotlaw03_PlanAny.l0]
    rw [if_neg (by omega), w64_id (x := (at_ : Int) - 1) (by omega) (by omega)]
    exact pa_down b w at_ ha hb hw hg at_ k u (by omega) (by omega) hr (fun j j0 j1 => hu j j0 (by omega))
  | d + 1, k, i, u, hi, hk, hr, hu => by
    obtain ⟨k, rfl⟩ : ∃ m, k = m + 1 := ⟨k - 1, by omega⟩
    have e1 : wrap64 ((i : Int) + 1) = ((i + 1 : Nat) : Int) := by rw [w64_id (by omega) (by omega)]; omega
    have ea : wrap64 ((at_ : Int) + i) = at_ + i := w64_id (by omega) (by omega)
    simp only [drawlotlaw03_PlanAny.l0]
    rw [if_pos (by omega), ea, if_pos (by omega), if_pos (by omega), e1]
    refine pa_loop b w at_ ha hb hw hg d k (i + 1) _ (by omega) (by omega) (hr.set (by omega) (by omega) (hw _)) fun j j0 j1 => ?_
    rw [get_set (by omega) (by omega) (by omega)]
    split
    · rename_i h; subst h; rfl
    · exact hu j j0 (by omega)
theorem PlanAny : drawlotlaw03_PlanAny.Pure := by
  intro b n hb hn
  have hb' : InR 64 256 b := InR.of_mem (by decide) hb.1 (fun x hx => wf8 (hb.2 x hx))
  obtain ⟨n0, n1⟩ := wf8 hn
  refine ⟨200, ?_⟩
  obtain ⟨w, e, hw, hg⟩ := Of_ok hb' (k := 200) (by omega)
  have et : wrap64 (Int.tmod n 49) = ((n % 49).toNat : Int) := by rw [Int.tmod_eq_emod_of_nonneg n0, w64_id (by omega) (by omega)]; omega
  unfold drawlotlaw03_PlanAny.f
  rw [alive03 _ (by omega), bs, if_pos rfl, e, bs, et]
  exact pa_loop b w (n % 49).toNat (by omega) hb' hw hg 16 200 0 _ (by omega) (by omega) (InR.zero 64 (by decide)) (fun j j0 j1 => by omega)
end Go.Proofs.Ytpkdpdbcgbeakaa.Pure
