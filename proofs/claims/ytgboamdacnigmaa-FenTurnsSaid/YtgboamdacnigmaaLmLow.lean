/- Plain facts on the lowest bit of a number, and on the tree of sums by it. No conditions. -/
import Derived.Test.YtgboamdacnigmaaLmBase
namespace Go.Proofs.Ytgboamdacnigmaa.Lm
open Go.RowKit Go.Proofs.YtgboamdacnigmaaW.PrintWords

/-- The lowest bit. -/
def lb (n : Nat) : Nat := if h : n % 2 = 0 ∧ 0 < n then 2 * lb (n / 2) else 1
termination_by n
decreasing_by omega
theorem lb_odd (m : Nat) : lb (2 * m + 1) = 1 := by rw [lb, dif_neg (by omega)]
theorem lb_even (m : Nat) (h : 0 < m) : lb (2 * m) = 2 * lb m := by
  rw [lb, dif_pos (by omega)]
  congr 2; omega
theorem halves {p : Nat → Prop} (ho : ∀ m, p (2 * m + 1)) (he : ∀ m, 0 < m → p m → p (2 * m)) : ∀ n, 0 < n → p n := by
  intro n
  induction n using Nat.strongRecOn with
  | _ n ih =>
    intro h
    by_cases c : n % 2 = 0
    · have e : n = 2 * (n / 2) := by omega
      rw [e]
      exact he _ (by omega) (ih _ (by omega) (by omega))
    · have e : n = 2 * (n / 2) + 1 := by omega
      rw [e]
      exact ho _
theorem lb_pos : ∀ n, 0 < n → 0 < lb n ∧ lb n ≤ n := by
  refine halves (fun m => ?_) (fun m h ih => ?_)
  · rw [lb_odd]; omega
  · rw [lb_even m h]; omega
/-- A number between n and the next one of its chain begins behind n. -/
theorem lb_gap : ∀ n, 0 < n → ∀ j, n < j → j < n + lb n → n ≤ j - lb j := by
  refine halves (fun m => ?_) (fun m h ih => ?_)
  · intro j h1 h2; rw [lb_odd] at h2; omega
  · intro j h1 h2
    rw [lb_even m h] at h2
    by_cases c : j % 2 = 0
    · have e : j = 2 * (j / 2) := by omega
      have := ih (j / 2) (by omega) (by omega)
      rw [e, lb_even _ (by omega)]
      omega
    · have e : j = 2 * (j / 2) + 1 := by omega
      rw [e, lb_odd]
      omega
theorem lb_up : ∀ n, 0 < n → (n + lb n) - lb (n + lb n) ≤ n - lb n := by
  refine halves (fun m => ?_) (fun m h ih => ?_)
  · rw [lb_odd, show 2 * m + 1 + 1 = 2 * (m + 1) by omega, lb_even _ (by omega)]
    have := lb_pos (m + 1) (by omega)
    omega
  · have hp := lb_pos m h
    rw [lb_even m h, show 2 * m + 2 * lb m = 2 * (m + lb m) by omega, lb_even _ (by omega)]
    omega
theorem lb_pow (e : Nat) : ∀ c : Nat, lb (2 ^ e * (2 * c + 1)) = 2 ^ e := by
  induction e with
  | zero => intro c; rw [Nat.pow_zero, Nat.one_mul, lb_odd]
  | succ e ih =>
    intro c
    have : 2 ^ (e + 1) * (2 * c + 1) = 2 * (2 ^ e * (2 * c + 1)) := by rw [Nat.pow_succ]; ac_rfl
    rw [this, lb_even _ (Nat.mul_pos (Nat.two_pow_pos e) (by omega)), ih, Nat.pow_succ]
    omega

/-- How far the stakes ahead of j are in its sum, when those up to m have been added on. -/
def cov (m j : Nat) : Nat := if h : j % 2 = 1 ∨ j = 0 then j - 1 else if m + 1 ≥ j then j - 1 else 2 * cov (m / 2) (j / 2)
termination_by j
decreasing_by omega
theorem cov_odd (m c : Nat) : cov m (2 * c + 1) = 2 * c := by rw [cov, dif_pos (by omega)]; omega
theorem cov_late (m j : Nat) (h : j ≤ m + 1) : cov m j = j - 1 := by
  rw [cov]
  repeat' split
  all_goals first | rfl | omega
theorem cov_even (m c : Nat) (h : m + 1 < 2 * c) : cov m (2 * c) = 2 * cov (m / 2) c := by
  rw [cov, dif_neg (by omega), if_neg (by omega)]
  congr 2; omega
theorem cov_zero : ∀ j, 0 < j → cov 0 j = j - lb j := by
  refine halves (fun m => ?_) (fun m h ih => ?_)
  · rw [cov_odd, lb_odd]; omega
  · rw [cov_even _ _ (by omega), lb_even m h, ih]; omega
theorem cov_up : ∀ i, 0 < i → cov (i - 1) (i + lb i) = i - lb i ∧ cov i (i + lb i) = i := by
  refine halves (fun m => ?_) (fun m h ih => ?_)
  · rw [lb_odd, show 2 * m + 1 + 1 = 2 * (m + 1) by omega]
    refine ⟨?_, ?_⟩
    · rw [cov_even _ _ (by omega), cov_late _ _ (by omega)]; omega
    · rw [cov_late _ _ (by omega)]; omega
  · have hp := lb_pos m h
    rw [lb_even m h, show 2 * m + 2 * lb m = 2 * (m + lb m) by omega]
    refine ⟨?_, ?_⟩
    · rw [cov_even _ _ (by omega), show (2 * m - 1) / 2 = m - 1 by omega, ih.1]; omega
    · rw [cov_even _ _ (by omega), show 2 * m / 2 = m by omega, ih.2]
theorem cov_other : ∀ j, 0 < j → ∀ i, 0 < i → i < j → i + lb i ≠ j → cov i j = cov (i - 1) j := by
  refine halves (fun m => ?_) (fun m h ih => ?_)
  · intro i _ _ _; rw [cov_odd, cov_odd]
  · intro i h0 h1 h2
    by_cases c : i % 2 = 0
    · have e : i = 2 * (i / 2) := by omega
      rw [e, lb_even _ (by omega)] at h2
      rw [cov_even _ _ (by omega), cov_even _ _ (by omega), show (i - 1) / 2 = i / 2 - 1 by omega]
      rw [ih (i / 2) (by omega) (by omega) (by omega)]
    · have e : i = 2 * (i / 2) + 1 := by omega
      rw [e, lb_odd] at h2
      rw [cov_even _ _ (by omega), cov_even _ _ (by omega), show (i - 1) / 2 = i / 2 by omega]

/-- The sum of the first n. -/
def P (l : List Int) (n : Nat) : Int := (l.take n).sum
theorem P_zero (l : List Int) : P l 0 = 0 := by simp [P]
theorem P_succ {l : List Int} {n : Nat} (h : n < l.length) : P l (n + 1) = P l n + rd l (n : Int) := sum_take_step h
theorem P_all {l : List Int} {n : Nat} (h : l.length ≤ n) : P l n = l.sum := by unfold P; rw [List.take_of_length_le h]
theorem P_mono {l : List Int} (hl : U64 l) {a b : Nat} (h : a ≤ b) : P l a ≤ P l b := by
  obtain ⟨d, rfl⟩ := Nat.exists_eq_add_of_le h
  have : l.take (a + d) = l.take a ++ (l.drop a).take d := List.take_add
  unfold P
  rw [this, List.sum_append]
  have := sum_nonneg ((hl.drop a).take d)
  omega
theorem P_nonneg {l : List Int} (hl : U64 l) (n : Nat) : 0 ≤ P l n := sum_nonneg (hl.take n)
theorem P_le {l : List Int} (hl : U64 l) (n : Nat) : P l n ≤ l.sum := by
  have := sum_take_drop l n
  have := sum_nonneg (hl.drop n)
  unfold P; omega
theorem P_set {l : List Int} {i : Nat} (h : i < l.length) (x : Int) (n : Nat) : P (l.set i x) n = P l n + (if i < n then x - rd l (i : Int) else 0) := by
  induction n with
  | zero => simp [P]
  | succ n ih =>
    by_cases hn : n < l.length
    · rw [P_succ (l := l.set i x) (by simpa using hn), P_succ hn, ih]
      have e : rd (l.set i x) (n : Int) = if i = n then x else rd l (n : Int) := by
        rw [rd_nat, rd_nat, List.getD_eq_getElem?_getD, List.getElem?_set]
        split
        · rename_i e; subst e; simp
        · simp
      rw [e]
      by_cases c : i = n
      · subst c; rw [if_pos rfl, if_neg (by omega), if_pos (by omega)]; omega
      · rw [if_neg c]
        by_cases d : i < n
        · rw [if_pos d, if_pos (by omega)]; omega
        · rw [if_neg d, if_neg (by omega)]; omega
    · have e1 : P (l.set i x) (n + 1) = P (l.set i x) n := by rw [P_all (by simp; omega), P_all (by simp; omega)]
      have e2 : P l (n + 1) = P l n := by rw [P_all (by omega), P_all (by omega)]
      rw [e1, e2, ih, if_pos (by omega), if_pos (by omega)]
/-- The tree of stakes. -/
def tre (l : List Int) : List Int := (List.range l.length).map fun i => P l (i + 1) - P l (i + 1 - lb (i + 1))
theorem tre_length (l : List Int) : (tre l).length = l.length := by simp [tre]
theorem rd_tre {l : List Int} {n : Nat} (h0 : 0 < n) (h : n ≤ l.length) : rd (tre l) ((n - 1 : Nat) : Int) = P l n - P l (n - lb n) := by
  rw [rd_nat, List.getD_eq_getElem?_getD]
  unfold tre
  rw [List.getElem?_map, List.getElem?_range (by omega)]
  simp [show n - 1 + 1 = n by omega]
theorem ext_tre {l t : List Int} (hl : t.length = l.length) (h : ∀ j, 0 < j → j ≤ l.length → rd t ((j - 1 : Nat) : Int) = P l j - P l (j - lb j)) : t = tre l := by
  refine ext_rd (by rw [hl, tre_length]) fun i hi => ?_
  have := h (i + 1) (by omega) (by omega)
  rw [show i + 1 - 1 = i by omega] at this
  rw [this, ← rd_tre (l := l) (n := i + 1) (by omega) (by omega)]
  rfl
theorem tre_U64 {l : List Int} (hl : U64 l) (hs : l.sum < 9223372036854775808) : U64 (tre l) := by
  intro x hx
  unfold tre at hx
  obtain ⟨i, hi, rfl⟩ := List.mem_map.1 hx
  have := P_mono hl (a := i + 1 - lb (i + 1)) (b := i + 1) (by omega)
  have := P_le hl (i + 1)
  have := P_nonneg hl (i + 1 - lb (i + 1))
  omega
theorem rd_set {l : List Int} {i : Nat} (x : Int) (j : Nat) (h : i < l.length) : rd (l.set i x) (j : Int) = if i = j then x else rd l (j : Int) := by
  rw [rd_nat, rd_nat, List.getD_eq_getElem?_getD, List.getElem?_set]
  split
  · rename_i e; subst e; simp
  · simp [List.getD_eq_getElem?_getD]

/-! ### n & -n -/
theorem and_compl : ∀ w y : Nat, y < 2 ^ w → y &&& (2 ^ w - (y + 1)) = 0 := by
  intro w y h
  refine Nat.eq_of_testBit_eq fun i => ?_
  rw [Nat.testBit_and, Nat.testBit_two_pow_sub_succ h]
  cases y.testBit i <;> simp
theorem and_two (a b : Nat) : (2 * a) &&& (2 * b) = 2 * (a &&& b) := by
  have h1 := @Nat.and_div_two (2 * a) (2 * b)
  have h2 := @Nat.and_mod_two_eq_one (2 * a) (2 * b)
  rw [show 2 * a / 2 = a by omega, show 2 * b / 2 = b by omega] at h1
  omega
theorem and_two_one (a b : Nat) : (2 * a + 1) &&& (2 * b + 1) = 2 * (a &&& b) + 1 := by
  have h1 := @Nat.and_div_two (2 * a + 1) (2 * b + 1)
  have h2 := @Nat.and_mod_two_eq_one (2 * a + 1) (2 * b + 1)
  rw [show (2 * a + 1) / 2 = a by omega, show (2 * b + 1) / 2 = b by omega] at h1
  have := h2.2 ⟨by omega, by omega⟩
  omega
theorem and_neg_lb : ∀ n, 0 < n → ∀ w, n < 2 ^ w → n &&& (2 ^ w - n) = lb n := by
  refine halves (fun m => ?_) (fun m h ih => ?_)
  · intro w hw
    obtain ⟨w, rfl⟩ : ∃ v, w = v + 1 := ⟨w - 1, by rcases w with _ | w <;> simp at hw ⊢⟩
    rw [Nat.pow_succ] at hw ⊢
    have e : 2 ^ w * 2 - (2 * m + 1) = 2 * (2 ^ w - (m + 1)) + 1 := by omega
    rw [e, and_two_one, and_compl w m (by omega), lb_odd]
  · intro w hw
    obtain ⟨w, rfl⟩ : ∃ v, w = v + 1 := ⟨w - 1, by rcases w with _ | w <;> simp at hw ⊢; omega⟩
    rw [Nat.pow_succ] at hw ⊢
    have e : 2 ^ w * 2 - 2 * m = 2 * (2 ^ w - m) := by omega
    rw [e, and_two, ih w (by omega), lb_even m h]
theorem bits_low (n : Nat) (h0 : 0 < n) (h1 : n < 9223372036854775808) : Go.bits .and .i64 (n : Int) (wrap64 (-(n : Int))) = (lb n : Int) := by
  have hl := lb_pos n h0
  rw [w64_id (by omega) (by omega)]
  have e1 : (BitVec.ofInt 64 (n : Int)).toNat = n := by rw [BitVec.toNat_ofInt]; omega
  have e2 : (BitVec.ofInt 64 (-(n : Int))).toNat = 2 ^ 64 - n := by rw [BitVec.toNat_ofInt]; omega
  have e : (BitVec.ofInt 64 (n : Int) &&& BitVec.ofInt 64 (-(n : Int))).toNat = lb n := by
    rw [BitVec.toNat_and, e1, e2]
    exact and_neg_lb n h0 64 (by omega)
  show IntKind.i64.wrap ((BitVec.ofInt 64 (n : Int) &&& BitVec.ofInt 64 (-(n : Int))).toNat : Int) = _
  rw [e, IntKind.wrap_i64]
  omega
end Go.Proofs.Ytgboamdacnigmaa.Lm
