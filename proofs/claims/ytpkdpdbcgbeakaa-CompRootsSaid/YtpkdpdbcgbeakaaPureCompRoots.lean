/- The constants, and the first state, are the first 32 bits behind the point of those roots; the statement over numbers alone. No conditions. -/
import Derived.Test.YtpkdpdbcgbeakaaPRx6
import Derived.Test.YtpkdpdbcgbeakaaLmBase
namespace Go.Proofs.Ytpkdpdbcgbeakaa.Pure
open Go.RowKit Go.Proofs.Ytpkdpdbcgbeakaa.PR Go.Proofs.YtpkdpdbcgbeakaaW.PrintWords Go.Proofs.YtpkdpdbcgbeakaaW.PrintLast Go.Proofs.Ytpkdpdbcgbeakaa.Lm
theorem alive04r (k : Nat) (hk : 100 ≤ k) : drawlotlaw04_alive.f k = some true := at_rounds (g := fun k => drawlotlaw04_alive.f k) (fun k => drawlotlaw04_alive.mono k) (k := 100) (k' := k) hk (r := true) (by decide +kernel)
/-- Is a number left undivided by those from d on? n: how many are tried at most. -/
def nd (p : Nat) : Nat → Nat → Bool → Bool
  | 0, _, b => b
  | n + 1, d, b => if d * d ≤ p then nd p n (d + 1) (b && p % d != 0) else b
theorem nd_go (x0 : Int) (p : Nat) (hp : p < 1000) : ∀ (n d : Nat) (b : Bool), 2 ≤ d → d + n ≤ 100 → p < (d + n) * (d + n) → ∃ K, ∀ k, drawlotlaw04_prime.l1 (k + K) x0 p b d = drawlotlaw04_prime.j2 k x0 p (nd p n d b) (nd p n d b && (x0 == 0))
  | 0, d, b, h2, hd, hn => by
    refine ⟨1, fun k => ?_⟩
    have e : wrap64 ((d : Int) * d) = ((d * d : Nat) : Int) := by
      have : d * d ≤ 100 * 100 := Nat.mul_le_mul (by omega) (by omega)
      rw [w64_id (by rw [← Int.natCast_mul]; omega) (by rw [← Int.natCast_mul]; omega), Int.natCast_mul]
    simp only [drawlotlaw04_prime.l1, nd]
    rw [e, if_neg (by rw [Nat.add_zero] at hn; omega)]
    cases b <;> simp
  | n + 1, d, b, h2, hd, hn => by
    have e : wrap64 ((d : Int) * d) = ((d * d : Nat) : Int) := by
      have : d * d ≤ 100 * 100 := Nat.mul_le_mul (by omega) (by omega)
      rw [w64_id (by rw [← Int.natCast_mul]; omega) (by rw [← Int.natCast_mul]; omega), Int.natCast_mul]
    have e1 : wrap64 ((d : Int) + 1) = ((d + 1 : Nat) : Int) := by rw [w64_id (by omega) (by omega)]; omega
    have em : (Int.tmod (p : Int) (d : Int) != 0) = (p % d != 0) := by
      rw [Int.tmod_eq_emod_of_nonneg (by omega), ← Int.natCast_emod]
      cases h : p % d with
      | zero => rfl
      | succ m => simp; omega
    by_cases hc : d * d ≤ p
    · obtain ⟨K, hK⟩ := nd_go x0 p hp n (d + 1) (b && p % d != 0) (by omega) (by omega) (by rw [show d + 1 + n = d + (n + 1) by omega]; exact hn)
      refine ⟨K + 1, fun k => ?_⟩
      have hk := hK k
      rw [← Nat.add_assoc]
      simp only [drawlotlaw04_prime.l1, nd]
      rw [e, if_pos (by omega), if_pos hc, e1]
      cases b
      · rw [if_neg (by simp)]
        simpa using hk
      · rw [if_pos rfl, if_neg (by omega), em]
        simpa using hk
    · refine ⟨1, fun k => ?_⟩
      simp only [drawlotlaw04_prime.l1, nd]
      rw [e, if_neg (by omega), if_neg hc]
      cases b <;> simp
/-- The n-th prime from p on; f: how many are tried at most. -/
def pr : Nat → Nat → Nat → Option Nat
  | 0, _, _ => none
  | f + 1, n, p => if nd p 30 2 true = true then (if n = 0 then some p else pr f (n - 1) (p + 1)) else pr f n (p + 1)
theorem pr_go (q : Nat) : ∀ (f n p : Nat), n < 1000 → 2 ≤ p → p + f ≤ 900 → pr f n p = some q → ∃ K, ∀ k, drawlotlaw04_prime.l0 (k + K) n p = some (q : Int)
  | 0, n, p, _, _, _, h => by simp [pr] at h
  | f + 1, n, p, hn, hp, hf, h => by
    obtain ⟨K, hK⟩ := nd_go n p (by omega) 30 2 true (by omega) (by omega) (by omega)
    have e1 : wrap64 ((p : Int) + 1) = ((p + 1 : Nat) : Int) := by rw [w64_id (by omega) (by omega)]; omega
    simp only [pr] at h
    have go : ∀ k, drawlotlaw04_prime.l0 (k + K + 1) n p = drawlotlaw04_prime.j2 k n p (nd p 30 2 true) (nd p 30 2 true && ((n : Int) == 0)) := fun k => by
      simp only [drawlotlaw04_prime.l0]
      exact hK k
    by_cases hc : nd p 30 2 true = true
    · rw [if_pos hc] at h
      rw [hc] at go
      by_cases h0 : n = 0
      · rw [if_pos h0] at h
        injection h with h
        refine ⟨1 + K + 1, fun k => ?_⟩
        rw [show k + (1 + K + 1) = (k + 1) + K + 1 by omega, go]
        simp only [drawlotlaw04_prime.j2]
        rw [if_pos (by simp [h0]), u64w_id (by omega) (by omega), h]
      · rw [if_neg h0] at h
        obtain ⟨K', h'⟩ := pr_go q f (n - 1) (p + 1) (by omega) (by omega) (by omega) h
        refine ⟨K' + 1 + K + 1, fun k => ?_⟩
        rw [show k + (K' + 1 + K + 1) = (k + K' + 1) + K + 1 by omega, go]
        simp only [drawlotlaw04_prime.j2]
        rw [if_neg (by simp; omega), if_pos trivial, e1, w64_id (x := (n : Int) - 1) (by omega) (by omega), show (n : Int) - 1 = ((n - 1 : Nat) : Int) by omega]
        exact h' k
    · rw [if_neg hc] at h
      obtain ⟨K', h'⟩ := pr_go q f n (p + 1) hn (by omega) (by omega) h
      refine ⟨K' + 1 + K + 1, fun k => ?_⟩
      rw [show k + (K' + 1 + K + 1) = (k + K' + 1) + K + 1 by omega, go]
      have hf : nd p 30 2 true = false := by simpa using hc
      rw [hf]
      simp only [drawlotlaw04_prime.j2]
      rw [if_neg (by simp), if_neg (by simp), e1]
      exact h' k
def all64 : Bool := (List.range 64).all fun i => match pr 320 i 2 with
  | some p => drawlotlaw04_CompRoots.l0 100 (i : Int) (p : Int) 1 1 == some true
  | none => false
theorem all64_ok : all64 = true := by decide +kernel
theorem CompRoots : drawlotlaw04_CompRoots.Pure := by
  intro n hn
  obtain ⟨n0, n1⟩ := wf8 hn
  have e : wrap64 (Int.tmod n 64) = ((n % 64).toNat : Int) := by rw [Int.tmod_eq_emod_of_nonneg n0, w64_id (by omega) (by omega)]; omega
  have h := List.all_eq_true.1 all64_ok (n % 64).toNat (List.mem_range.2 (by omega))
  cases hp : pr 320 (n % 64).toNat 2 with
  | none => rw [hp] at h; cases h
  | some p =>
    rw [hp] at h
    have h' : drawlotlaw04_CompRoots.l0 100 ((n % 64).toNat : Int) (p : Int) 1 1 = some true := by simpa using h
    obtain ⟨K, hK⟩ := pr_go p 320 (n % 64).toNat 2 (by omega) (by omega) (by omega) hp
    have hl := at_rounds (g := fun k => drawlotlaw04_CompRoots.l0 k ((n % 64).toNat : Int) (p : Int) 1 1) (fun k => drawlotlaw04_CompRoots.mono_l k |>.1 _ _ _ _) (k := 100) (k' := 100 + K) (by omega) h'
    refine ⟨100 + K, ?_⟩
    unfold drawlotlaw04_CompRoots.f drawlotlaw04_prime.f
    rw [alive04r _ (by omega), bs, if_pos rfl, e, show drawlotlaw04_prime.l0 (100 + K) ((n % 64).toNat : Int) 2 = some (p : Int) from hK 100, bs]
    exact hl
end Go.Proofs.Ytpkdpdbcgbeakaa.Pure
