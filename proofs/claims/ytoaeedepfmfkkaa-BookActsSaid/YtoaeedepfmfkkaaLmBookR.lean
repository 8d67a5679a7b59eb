/- What the functions of book's reference answer, in plain Lean. No conditions. -/
import Derived.Test.YtoaeedepfmfkkaaPBx7
import Derived.Test.YtoaeedepfmfkkaaPBx8
import Derived.Test.YtoaeedepfmfkkaaPBx9
import Derived.Test.YtoaeedepfmfkkaaPBx5
import Derived.Test.YtoaeedepfmfkkaaPBx6
import Derived.Test.YtoaeedepfmfkkaaLmBook
namespace Go.Proofs.Ytoaeedepfmfkkaa.Lm
open Go.RowKit Go.Proofs.YtoaeedepfmfkkaaW.PrintWords Go.Proofs.Ytoaeedepfmfkkaa.PB

theorem rstk_l (l : List S27) (hm : l.length ≤ 100000) : ∀ (d k : Nat) (acc : List Int) (n : Nat), n + d = l.length → d < k → acc.length ≤ n →
    drawlotref22_Stakes.l0 k l acc (n : Int) = some (acc ++ stk (l.drop n)) := by
  intro d
  induction d with
  | zero =>
    intro k acc n hn hk ha
    obtain ⟨k, rfl⟩ : ∃ m, k = m + 1 := ⟨k - 1, by omega⟩
    simp only [drawlotref22_Stakes.l0]
    rw [if_neg (by omega), List.drop_eq_nil_of_le (by omega)]
    simp [stk]
  | succ d ih =>
    intro k acc n hn hk ha
    obtain ⟨k, rfl⟩ : ∃ m, k = m + 1 := ⟨k - 1, by omega⟩
    simp only [drawlotref22_Stakes.l0]
    rw [if_pos (by omega), if_pos (by omega), if_pos (by omega), w64_id (by omega) (by omega), show (n : Int) + 1 = ((n + 1 : Nat) : Int) by omega, ih k _ (n + 1) (by omega) (by omega) (by simp; omega), drop27 (by omega : n < l.length)]
    simp [stk]
theorem rstakes_ok (k : Nat) (l : List S27) (hm : l.length ≤ 100000) (hk : l.length < k) : drawlotref22_Stakes.f k l = some (stk l) := by
  unfold drawlotref22_Stakes.f
  have := rstk_l l hm l.length k [] 0 (by omega) hk (by simp)
  simpa using this
theorem rnxt_l (l : List S27) (hm : l.length ≤ 100000) : ∀ (d k : Nat) (acc : List Int) (n : Nat), n + d = l.length → d < k → acc.length ≤ n →
    drawlotref22_Nexts.l0 k l acc (n : Int) = some (acc ++ nxt (l.drop n)) := by
  intro d
  induction d with
  | zero =>
    intro k acc n hn hk ha
    obtain ⟨k, rfl⟩ : ∃ m, k = m + 1 := ⟨k - 1, by omega⟩
    simp only [drawlotref22_Nexts.l0]
    rw [if_neg (by omega), List.drop_eq_nil_of_le (by omega)]
    simp [nxt]
  | succ d ih =>
    intro k acc n hn hk ha
    obtain ⟨k, rfl⟩ : ∃ m, k = m + 1 := ⟨k - 1, by omega⟩
    simp only [drawlotref22_Nexts.l0]
    rw [if_pos (by omega), if_pos (by omega), if_pos (by omega), w64_id (by omega) (by omega), show (n : Int) + 1 = ((n + 1 : Nat) : Int) by omega, ih k _ (n + 1) (by omega) (by omega) (by simp; omega), drop27 (by omega : n < l.length)]
    simp [nxt]
theorem rnexts_ok (k : Nat) (l : List S27) (hm : l.length ≤ 100000) (hk : l.length < k) : drawlotref22_Nexts.f k l = some (nxt l) := by
  unfold drawlotref22_Nexts.f
  have := rnxt_l l hm l.length k [] 0 (by omega) hk (by simp)
  simpa using this

/-! keys that stand twice -/
def PD (l : List S27) (i : Nat) : Prop := ∀ i' q : Nat, i ≤ i' → i' < l.length → q < i' → (rd_T27 l (i' : Int)).f0 ≠ (rd_T27 l (q : Int)).f0
theorem nodup_pw (l : List S27) : nodup l ↔ l.Pairwise (fun a b => b.f0 ≠ a.f0) := by
  induction l with
  | nil => simp [nodup]
  | cons v l ih => simp only [nodup, List.pairwise_cons, ih]
theorem nodup_PD (l : List S27) : nodup l ↔ PD l 0 := by
  rw [nodup_pw, List.pairwise_iff_getElem]
  constructor
  · intro h i' q _ hi hq
    rw [rd27_nat l i' hi, rd27_nat l q (by omega)]
    exact h q i' (by omega) hi hq
  · intro h i j hi hj hij
    have := h j i (by omega) hj hij
    rwa [rd27_nat l j hj, rd27_nat l i hi] at this
theorem rr_l1 (l : List S27) (hl : VL l) (hm : l.length ≤ 10000) (i M : Nat) (hi : i < l.length) (hI : ∀ k, M ≤ k → ∃ b, drawlotref22_Right.l0 k l ((i + 1 : Nat) : Int) = some b ∧ (b = true ↔ PD l (i + 1))) :
    ∀ (d k q : Nat), q + d = i → d + 1 + M ≤ k → ∃ b, drawlotref22_Right.l1 k l (i : Int) (q : Int) = some b ∧ (b = true ↔ (∀ p : Nat, q ≤ p → p < i → (rd_T27 l (i : Int)).f0 ≠ (rd_T27 l (p : Int)).f0) ∧ PD l (i + 1)) := by
  intro d
  induction d with
  | zero =>
    intro k q hq hk
    obtain ⟨k, rfl⟩ : ∃ m, k = m + 1 := ⟨k - 1, by omega⟩
    simp only [drawlotref22_Right.l1]
    rw [if_neg (by omega), w64_id (by omega) (by omega), show (i : Int) + 1 = ((i + 1 : Nat) : Int) by omega]
    obtain ⟨b, h1, h2⟩ := hI k (by omega)
    exact ⟨b, h1, h2.trans ⟨fun h => ⟨fun p h3 h4 => by omega, h⟩, fun h => h.2⟩⟩
  | succ d ih =>
    intro k q hq hk
    obtain ⟨k, rfl⟩ : ∃ m, k = m + 1 := ⟨k - 1, by omega⟩
    simp only [drawlotref22_Right.l1]
    rw [if_pos (by omega), if_pos (by omega), if_pos (by omega), if_pos (by omega), if_pos (by omega), eqb32 (rd27_VW hl hi).1 (rd27_VW hl (by omega)).1]
    by_cases c : (rd_T27 l (i : Int)).f0 = (rd_T27 l (q : Int)).f0
    · rw [if_pos (decide_eq_true c)]
      exact ⟨false, rfl, ⟨fun h => (by cases h), fun h => absurd c (h.1 q (by omega) (by omega))⟩⟩
    · rw [if_neg (by simpa using c), w64_id (by omega) (by omega), show (q : Int) + 1 = ((q + 1 : Nat) : Int) by omega]
      obtain ⟨b, h1, h2⟩ := ih k (q + 1) (by omega) (by omega)
      refine ⟨b, h1, h2.trans ⟨fun h => ⟨fun p h3 h4 => ?_, h.2⟩, fun h => ⟨fun p h3 h4 => h.1 p (by omega) h4, h.2⟩⟩⟩
      rcases Nat.eq_or_lt_of_le h3 with e | e
      · subst e; exact c
      · exact h.1 p (by omega) h4
theorem rr_l0 (l : List S27) (hl : VL l) (hm : l.length ≤ 10000) : ∀ (d k i : Nat), i + d = l.length → d * (l.length + 2) + 1 ≤ k → ∃ b, drawlotref22_Right.l0 k l (i : Int) = some b ∧ (b = true ↔ PD l i) := by
  intro d
  induction d with
  | zero =>
    intro k i hi hk
    obtain ⟨k, rfl⟩ : ∃ m, k = m + 1 := ⟨k - 1, by omega⟩
    simp only [drawlotref22_Right.l0]
    rw [if_neg (by omega)]
    exact ⟨true, rfl, ⟨fun _ i' q h1 h2 h3 => by omega, fun _ => rfl⟩⟩
  | succ d ih =>
    intro k i hi hk
    rw [Nat.add_mul, Nat.one_mul] at hk
    obtain ⟨k, rfl⟩ : ∃ m, k = m + 1 := ⟨k - 1, by omega⟩
    simp only [drawlotref22_Right.l0]
    rw [if_pos (by omega)]
    obtain ⟨b, h1, h2⟩ := rr_l1 l hl hm i (d * (l.length + 2) + 1) (by omega) (fun k hk => ih k (i + 1) (by omega) hk) i k 0 (by omega) (by omega)
    simp only [Int.ofNat_zero] at h1
    refine ⟨b, h1, h2.trans ⟨fun h i' q h3 h4 h5 => ?_, fun h => ⟨fun p _ h4 => h i p (Nat.le_refl _) (by omega) h4, fun i' q h3 h4 h5 => h i' q (by omega) h4 h5⟩⟩⟩
    rcases Nat.eq_or_lt_of_le h3 with e | e
    · subst e; exact h.1 q (by omega) h5
    · exact h.2 i' q (by omega) h4 h5
theorem rright_ok (k : Nat) (l : List S27) (hl : VL l) (hm : l.length ≤ 10000) (hk : l.length * (l.length + 2) + 5 ≤ k) : drawlotref22_Right.f k l = some (decide (RT l)) := by
  have e1 : (stk l).length = l.length := by simp [stk]
  have e2 : (nxt l).length = l.length := by simp [nxt]
  have hk' : l.length < k := by
    have : l.length * 1 ≤ l.length * (l.length + 2) := Nat.mul_le_mul_left _ (by omega)
    omega
  unfold drawlotref22_Right.f
  rw [rstakes_ok k l (by omega) hk', bs, rtotal_ok k (stk l) hl.stk (by omega) (by omega), bs, rnexts_ok k l (by omega) hk', bs, rtotal_ok k (nxt l) hl.nxt (by omega) (by omega), bs, if_neg (by omega)]
  obtain ⟨k, rfl⟩ : ∃ m, k = m + 1 := ⟨k - 1, by omega⟩
  unfold RT
  have hj : ∀ c : Bool, drawlotref22_Right.j0 (k + 1) l c = if c = true then some false else drawlotref22_Right.l0 k l 0 := fun c => by simp only [drawlotref22_Right.j0]
  rw [hj, hj]
  obtain ⟨b, h1, h2⟩ := rr_l0 l hl hm l.length k 0 (by omega) (by omega)
  simp only [Int.ofNat_zero] at h1
  rw [h1]
  rw [← nodup_PD] at h2
  by_cases c1 : (stk l).sum < 9223372036854775808
  · by_cases c2 : (nxt l).sum < 9223372036854775808
    · by_cases c3 : nodup l
      · rw [h2.2 c3]; simp [c1, c2, c3]
      · have : b = false := by
          cases b with
          | false => rfl
          | true => exact absurd (h2.1 rfl) c3
        simp [c1, c2, c3, this]
    · simp [c1, c2]
  · simp [c1]
theorem rfind_l (key : List Int) (hkey : key.length = 32) (l : List S27) (hl : VL l) (hm : l.length ≤ 100000) : ∀ (d k n : Nat), n + d = l.length → d < k →
    drawlotref22_Find.l0 k l (n : Int) key = some ((idx key (l.drop n) (n : Int)).getD 0, (idx key (l.drop n) (n : Int)).isSome) := by
  intro d
  induction d with
  | zero =>
    intro k n hn hk
    obtain ⟨k, rfl⟩ : ∃ m, k = m + 1 := ⟨k - 1, by omega⟩
    simp only [drawlotref22_Find.l0]
    rw [if_neg (by omega), List.drop_eq_nil_of_le (by omega)]
    rfl
  | succ d ih =>
    intro k n hn hk
    obtain ⟨k, rfl⟩ : ∃ m, k = m + 1 := ⟨k - 1, by omega⟩
    simp only [drawlotref22_Find.l0]
    rw [if_pos (by omega), if_pos (by omega), eqb32 (rd27_VW hl (by omega)).1 hkey, drop27 (by omega : n < l.length), w64_id (by omega) (by omega), show (n : Int) + 1 = ((n + 1 : Nat) : Int) by omega, ih k (n + 1) (by omega) (by omega)]
    simp only [idx, decide_eq_true_eq]
    split
    · rfl
    · rw [show (n : Int) + 1 = ((n + 1 : Nat) : Int) by omega]
theorem rfind_ok (k : Nat) (key : List Int) (hkey : key.length = 32) (l : List S27) (hl : VL l) (hm : l.length ≤ 100000) (hk : l.length < k) : drawlotref22_Find.f k l key = some (fnd l key) := by
  unfold drawlotref22_Find.f fnd
  have := rfind_l key hkey l hl hm l.length k 0 (by omega) hk
  simpa using this
theorem rwith_ok (l : List S27) (hm : l.length ≤ 100000) (i n : Int) (h0 : 0 ≤ i) (h1 : i < (l.length : Int)) : drawlotref22_with.f l i n = some (put2 l i n) := by
  unfold drawlotref22_with.f
  rw [bs]
  simp only [List.length_nil, Nat.zero_add, List.nil_append]
  rw [if_pos (by omega), bs, if_pos h0, if_pos h1]
  rfl
theorem rdeposit_ok (k : Nat) (l : List S27) (hl : VL l) (hm : l.length ≤ 10000) (hk : l.length * (l.length + 2) + 10 ≤ k) (key : List Int) (hkey : key.length = 32) (a most : Int) (ha : 0 ≤ a ∧ a < 18446744073709551616) :
    drawlotref22_Deposit.f k l key a most = some (dep l key a most) := by
  have e2 : (nxt l).length = l.length := by simp [nxt]
  have hk' : l.length + 5 < k := by
    have : l.length * 1 ≤ l.length * (l.length + 2) := Nat.mul_le_mul_left _ (by omega)
    omega
  unfold drawlotref22_Deposit.f
  rw [rright_ok k l hl hm (by omega), bs]
  obtain ⟨k, rfl⟩ : ∃ m, k = m + 1 := ⟨k - 1, by omega⟩
  have hj : ∀ c : Bool, drawlotref22_Deposit.j0 (k + 1) l a most c key = if c = true then (some (([] : List (S27)), 0, 1)) else ((drawlotref22_Find.f k l key).bind fun bt307 => (if bt307.2 = true then (drawlotref22_Deposit.j1 k l a bt307.1 bt307.2 false key) else (drawlotref22_Deposit.j1 k l a bt307.1 bt307.2 (decide ((l.length : Int) ≥ most)) key))) := fun c => by simp only [drawlotref22_Deposit.j0]
  rw [hj, hj, if_pos rfl]
  unfold dep
  by_cases hR : RT l
  · have hs := hR.2.1
    have hs0 := sum_nonneg hl.nxt
    simp only [hR, decide_true, if_true, true_and]
    by_cases c1 : a = 0
    · rw [if_pos c1, if_neg (by simp [c1])]
    rw [if_neg c1]
    by_cases c2 : most < 1
    · rw [if_pos c2, if_neg (by omega)]
    rw [if_neg c2]
    by_cases c3 : most > 1048576
    · rw [if_pos (decide_eq_true c3), if_neg (show ¬ (a ≠ 0 ∧ 1 ≤ most ∧ most ≤ 1048576) by omega)]
    rw [if_neg (by simpa using c3), if_pos (show a ≠ 0 ∧ 1 ≤ most ∧ most ≤ 1048576 from ⟨c1, by omega, by omega⟩), rfind_ok k key hkey l hl (by omega) (by omega), bs]
    unfold fnd
    obtain ⟨k, rfl⟩ : ∃ m, k = m + 1 := ⟨k - 1, by omega⟩
    have hn := rnexts_ok k l (by omega) (by omega)
    have hU : U64 (nxt l ++ [a]) := fun x hx => by
      rcases List.mem_append.1 hx with h | h
      · exact hl.nxt x h
      · simp only [List.mem_singleton] at h; subst h; exact ha
    have ht := rtotal_ok k (nxt l ++ [a]) hU (by simp; omega) (by simp; omega)
    have hsum : (nxt l ++ [a]).sum = (nxt l).sum + a := by rw [List.sum_append]; simp
    rw [hsum] at ht
    have hlen : (nxt l).length + ([a] : List Int).length < 17592186044416 := by simp; omega
    have hj1 : ∀ (i : Int) (is c : Bool), drawlotref22_Deposit.j1 (k + 1) l a i is c key = if c = true then some (([] : List S27), 0, 4) else
        if (nxt l).sum + a < 9223372036854775808 then (if is = true then (if 0 ≤ i then (if i < (l.length : Int) then (some (put2 l i (IntKind.u64.wrap ((rd_T27 l i).f2 + a)), i, 0)) else none) else none) else some (l ++ [⟨key, 0, a⟩], (l.length : Int), 0)) else some ([], 0, 11) := fun i is c => by
      simp only [drawlotref22_Deposit.j1]
      by_cases hc : c = true
      · rw [if_pos hc, if_pos hc]
      rw [if_neg hc, if_neg hc, hn, bs, bs, if_pos hlen, ht, bs]
      by_cases c4 : (nxt l).sum + a < 9223372036854775808
      · rw [if_pos c4, if_pos c4]
        rw [if_pos rfl]
        by_cases hi_ : is = true
        · rw [if_pos hi_, if_pos hi_]
          by_cases c5 : 0 ≤ i
          · rw [if_pos c5, if_pos c5]
            by_cases c6 : i < (l.length : Int)
            · rw [if_pos c6, if_pos c6, rwith_ok l (by omega) i _ c5 c6, bs]
            · rw [if_neg c6, if_neg c6]
          · rw [if_neg c5, if_neg c5]
        · rw [if_neg hi_, if_neg hi_, bs]
          simp only [List.length_nil, Nat.zero_add, List.nil_append]
          rw [if_pos (show l.length < 2932031007402 by omega), bs, bs, if_pos (by simp; omega)]
      · rw [if_neg c4, if_neg c4, if_neg (by decide)]
    rw [hj1, hj1]
    cases hi : idx key l 0 with
    | some i =>
      have hr := idx_range key l 0 i hi
      have hf := nxt_le hl (i := i) (by omega) (by omega)
      have hf0 : 0 ≤ (rd_T27 l i).f2 := by
        obtain ⟨n, rfl⟩ := Int.eq_ofNat_of_zero_le hr.1
        exact (rd27_VW hl (by omega)).2.2.1
      simp only [Option.isSome_some, if_true, Option.getD_some]
      rw [if_neg (by decide)]
      by_cases c4 : (nxt l).sum + a < 9223372036854775808
      · rw [if_pos c4, if_pos c4, if_pos (by omega), if_pos (by omega), u64w_id (by omega) (by omega)]
      · rw [if_neg c4, if_neg c4]
    | none =>
      simp only [Option.isSome_none, Bool.false_eq_true, if_false, decide_eq_true_eq]
      by_cases c5 : (l.length : Int) ≥ most
      · rw [if_pos c5, if_pos c5]
      · rw [if_neg c5, if_neg c5]
        split <;> rfl
  · rw [if_neg (by simpa using hR), if_neg (fun h => hR h.1)]
theorem rwithdraw_ok (k : Nat) (l : List S27) (hl : VL l) (hm : l.length ≤ 10000) (hk : l.length * (l.length + 2) + 10 ≤ k) (who a : Int) (ha : 0 ≤ a ∧ a < 18446744073709551616) : drawlotref22_Withdraw.f k l who a = some (wd l who a) := by
  unfold drawlotref22_Withdraw.f
  rw [rright_ok k l hl hm (by omega), bs]
  obtain ⟨k, rfl⟩ : ∃ m, k = m + 2 := ⟨k - 2, by omega⟩
  have hj : ∀ c : Bool, drawlotref22_Withdraw.j0 (k + 1 + 1) l who a c = if c = true then (some (([] : List (S27)), 0, 1)) else (if who < 0 then (drawlotref22_Withdraw.j1 (k + 1) l who a true) else (drawlotref22_Withdraw.j1 (k + 1) l who a (decide (who ≥ (l.length : Int))))) := fun c => by simp only [drawlotref22_Withdraw.j0]
  have hj1 : ∀ c : Bool, drawlotref22_Withdraw.j1 (k + 1) l who a c = if c = true then (some (([] : List (S27)), 0, 5)) else (if 0 ≤ who then (if who < (l.length : Int) then (if a > ((rd_T27 l who).f2) then (some (([] : List (S27)), 0, 12)) else ((drawlotref22_with.f l who (IntKind.u64.wrap (((rd_T27 l who).f2) - a))).bind fun t361 => (some (t361, IntKind.u64.wrap (((rd_T27 l who).f2) - a), 0)))) else (none)) else (none)) := fun c => by simp only [drawlotref22_Withdraw.j1]
  rw [hj, hj, hj1, hj1]
  by_cases hR : RT l
  · by_cases c0 : a = 0
    · unfold wd
      simp [hR, c0]
    have ew : wd l who a = if 0 ≤ who ∧ who < (l.length : Int) then (if a > (rd_T27 l who).f2 then ([], 0, 12) else (put2 l who ((rd_T27 l who).f2 - a), (rd_T27 l who).f2 - a, 0)) else ([], 0, 5) := by
      unfold wd
      rw [if_pos (show RT l ∧ a ≠ 0 from ⟨hR, c0⟩)]
    rw [ew, if_pos (decide_eq_true hR), if_neg (by simpa using c0)]
    by_cases c1 : who < 0
    · rw [if_pos c1, if_pos rfl, if_neg (by omega)]
    rw [if_neg c1]
    by_cases c2 : who ≥ (l.length : Int)
    · rw [if_pos (decide_eq_true c2), if_neg (by omega)]
    have hf : VW (rd_T27 l who) := by
      obtain ⟨n, rfl⟩ := Int.eq_ofNat_of_zero_le (show 0 ≤ who by omega)
      exact rd27_VW hl (by omega)
    have hf2 := hf.2.2
    rw [if_neg (by simpa using c2), if_pos (by omega), if_pos (by omega), if_pos (show 0 ≤ who ∧ who < (l.length : Int) by omega)]
    by_cases c3 : a > (rd_T27 l who).f2
    · rw [if_pos c3, if_pos c3]
    · rw [if_neg c3, if_neg c3, u64w_id (by omega) (by omega), rwith_ok l (by omega) who _ (by omega) (by omega), bs]
  · unfold wd
    simp [hR]
theorem rslash_ok (k : Nat) (l : List S27) (hl : VL l) (hm : l.length ≤ 10000) (hk : l.length * (l.length + 2) + 10 ≤ k) (who a : Int) (ha : 0 ≤ a ∧ a < 18446744073709551616) : drawlotref22_Slash.f k l who a = some (sl l who a) := by
  unfold drawlotref22_Slash.f
  rw [rright_ok k l hl hm (by omega), bs]
  obtain ⟨k, rfl⟩ : ∃ m, k = m + 1 := ⟨k - 1, by omega⟩
  have hj : ∀ c : Bool, drawlotref22_Slash.j0 (k + 1) l who a c = if c = true then (some (([] : List (S27)), 0, 5)) else (if 0 ≤ who then (if who < (l.length : Int) then (if a > ((rd_T27 l who).f2) then ((drawlotref22_with.f l who 0).bind fun t369 => (some (t369, (rd_T27 l who).f2, 0))) else ((drawlotref22_with.f l who (IntKind.u64.wrap (((rd_T27 l who).f2) - a))).bind fun t373 => (some (t373, a, 0)))) else (none)) else (none)) := fun c => by simp only [drawlotref22_Slash.j0]
  rw [hj, hj]
  unfold sl
  by_cases hR : RT l
  · rw [if_pos (decide_eq_true hR), if_pos hR]
    by_cases c1 : who < 0
    · rw [if_pos c1, if_pos rfl, if_neg (by omega)]
    rw [if_neg c1]
    by_cases c2 : who ≥ (l.length : Int)
    · rw [if_pos (decide_eq_true c2), if_neg (by omega)]
    have hf : VW (rd_T27 l who) := by
      obtain ⟨n, rfl⟩ := Int.eq_ofNat_of_zero_le (show 0 ≤ who by omega)
      exact rd27_VW hl (by omega)
    have hf2 := hf.2.2
    rw [if_neg (by simpa using c2), if_pos (by omega), if_pos (by omega), if_pos (show 0 ≤ who ∧ who < (l.length : Int) by omega)]
    by_cases c3 : a > (rd_T27 l who).f2
    · rw [if_pos c3, rwith_ok l (by omega) who _ (by omega) (by omega), bs, show mn a (rd_T27 l who).f2 = (rd_T27 l who).f2 by unfold mn; omega, Int.sub_self]
    · rw [if_neg c3, show mn a (rd_T27 l who).f2 = a by unfold mn; omega, u64w_id (by omega) (by omega), rwith_ok l (by omega) who _ (by omega) (by omega), bs]
  · rw [if_neg (by simpa using hR), if_neg hR]
theorem ract_l (l : List S27) (hm : l.length ≤ 100000) : ∀ (d k : Nat) (acc : List S27) (n : Nat), n + d = l.length → d < k → acc.length ≤ n →
    drawlotref22_Activate.l0 k l acc (n : Int) = some (acc ++ actv (l.drop n)) := by
  intro d
  induction d with
  | zero =>
    intro k acc n hn hk ha
    obtain ⟨k, rfl⟩ : ∃ m, k = m + 1 := ⟨k - 1, by omega⟩
    simp only [drawlotref22_Activate.l0]
    rw [if_neg (by omega), List.drop_eq_nil_of_le (by omega)]
    simp [actv]
  | succ d ih =>
    intro k acc n hn hk ha
    obtain ⟨k, rfl⟩ : ∃ m, k = m + 1 := ⟨k - 1, by omega⟩
    simp only [drawlotref22_Activate.l0]
    rw [if_pos (by omega), if_pos (by omega), if_pos (by omega), w64_id (by omega) (by omega), show (n : Int) + 1 = ((n + 1 : Nat) : Int) by omega, ih k _ (n + 1) (by omega) (by omega) (by simp; omega), drop27 (by omega : n < l.length)]
    simp [actv]
theorem ractivate_ok (k : Nat) (l : List S27) (hm : l.length ≤ 100000) (hk : l.length < k) : drawlotref22_Activate.f k l = some (actv l) := by
  unfold drawlotref22_Activate.f
  have := ract_l l hm l.length k [] 0 (by omega) hk (by simp)
  simpa using this
theorem rsame27_l : ∀ (d k : Nat) (a b : List S27) (n : Nat), VL a → VL b → n + d = a.length → a.length = b.length → d < k → a.length ≤ 100000 →
    drawlotref22_Same.l0 k a b (n : Int) = some (decide (a.drop n = b.drop n)) := by
  intro d
  induction d with
  | zero =>
    intro k a b n hA hB hn hl hk hm
    obtain ⟨k, rfl⟩ : ∃ m, k = m + 1 := ⟨k - 1, by omega⟩
    simp only [drawlotref22_Same.l0]
    rw [if_neg (by omega), List.drop_eq_nil_of_le (by omega), List.drop_eq_nil_of_le (by omega)]
    simp
  | succ d ih =>
    intro k a b n hA hB hn hl hk hm
    obtain ⟨k, rfl⟩ : ∃ m, k = m + 1 := ⟨k - 1, by omega⟩
    simp only [drawlotref22_Same.l0]
    rw [if_pos (by omega), if_pos (by omega), if_pos (by omega), eqS27_is (rd27_VW hA (by omega)) (rd27_VW hB (by omega)), w64_id (by omega) (by omega), show (n : Int) + 1 = ((n + 1 : Nat) : Int) by omega, ih k a b (n + 1) hA hB (by omega) hl (by omega) hm,
      drop27 (l := a) (by omega : n < a.length), drop27 (l := b) (by omega : n < b.length)]
    by_cases h : rd_T27 a (n : Int) = rd_T27 b (n : Int) <;> simp [h]
theorem rsame_ok (k : Nat) (a b : List S27) (hA : VL a) (hB : VL b) (hk : a.length < k) (hm : a.length ≤ 100000) : drawlotref22_Same.f k a b = some (decide (a = b)) := by
  unfold drawlotref22_Same.f
  by_cases h : a.length = b.length
  · rw [if_pos (by omega)]
    have := rsame27_l a.length k a b 0 hA hB (by omega) h hk hm
    simpa using this
  · rw [if_neg (by omega)]
    have : a ≠ b := fun e => h (by rw [e])
    simp [this]
/-! what comes out may come in -/
theorem VL.put2 {l : List S27} (h : VL l) {i n : Int} (h0 : 0 ≤ i) (h1 : i < (l.length : Int)) (hn : 0 ≤ n ∧ n < 18446744073709551616) : VL (put2 l i n) := fun x hx => by
  rcases List.mem_or_eq_of_mem_set hx with hx | rfl
  · exact h x hx
  · obtain ⟨m, rfl⟩ := Int.eq_ofNat_of_zero_le h0
    have := rd27_VW h (n := m) (by omega)
    exact ⟨this.1, this.2.1, hn⟩
theorem VL.actv {l : List S27} (h : VL l) : VL (actv l) := fun x hx => by
  obtain ⟨v, hv, rfl⟩ := List.mem_map.1 hx
  have := h v hv
  exact ⟨this.1, this.2.2, this.2.2⟩
theorem VL.dep {l : List S27} (hl : VL l) {key : List Int} (hk : key.length = 32) {a most : Int} (ha : 0 ≤ a ∧ a < 18446744073709551616) : VL (dep l key a most).1 ∧ (dep l key a most).1.length ≤ l.length + 1 := by
  unfold Lm.dep
  split
  · rename_i hR
    have hs := hR.1.2.1
    split
    · rename_i i hi
      have hr := idx_range key l 0 i hi
      have hf := nxt_le hl (i := i) (by omega) (by omega)
      have hf0 : 0 ≤ (rd_T27 l i).f2 := by
        obtain ⟨n, rfl⟩ := Int.eq_ofNat_of_zero_le hr.1
        exact (rd27_VW hl (by omega)).2.2.1
      split
      · exact ⟨hl.put2 (by omega) (by omega) (by omega), by simp [Lm.put2]⟩
      · exact ⟨fun x hx => by simp at hx, by simp⟩
    · split
      · exact ⟨fun x hx => by simp at hx, by simp⟩
      · split
        · refine ⟨fun x hx => ?_, by simp⟩
          rcases List.mem_append.1 hx with h | h
          · exact hl x h
          · simp only [List.mem_singleton] at h; subst h; exact ⟨hk, by simp, ha⟩
        · exact ⟨fun x hx => by simp at hx, by simp⟩
  · exact ⟨fun x hx => by simp at hx, by simp⟩
theorem VL.wd {l : List S27} (hl : VL l) {who a : Int} (ha : 0 ≤ a ∧ a < 18446744073709551616) : VL (wd l who a).1 ∧ (wd l who a).1.length ≤ l.length := by
  unfold Lm.wd
  split
  · split
    · rename_i hw
      have hf : VW (rd_T27 l who) := by
        obtain ⟨n, rfl⟩ := Int.eq_ofNat_of_zero_le hw.1
        exact rd27_VW hl (by omega)
      have hf2 := hf.2.2
      split
      · exact ⟨fun x hx => by simp at hx, by simp⟩
      · exact ⟨hl.put2 (by omega) (by omega) (by omega), by simp [Lm.put2]⟩
    · exact ⟨fun x hx => by simp at hx, by simp⟩
  · exact ⟨fun x hx => by simp at hx, by simp⟩
theorem VL.sl {l : List S27} (hl : VL l) {who a : Int} (ha : 0 ≤ a ∧ a < 18446744073709551616) : VL (sl l who a).1 ∧ (sl l who a).1.length ≤ l.length := by
  unfold Lm.sl
  split
  · split
    · rename_i hw
      have hf : VW (rd_T27 l who) := by
        obtain ⟨n, rfl⟩ := Int.eq_ofNat_of_zero_le hw.1
        exact rd27_VW hl (by omega)
      have hf2 := hf.2.2
      have hmn : 0 ≤ mn a (rd_T27 l who).f2 ∧ mn a (rd_T27 l who).f2 ≤ (rd_T27 l who).f2 := by unfold mn; split <;> omega
      exact ⟨hl.put2 (by omega) (by omega) (by omega), by simp [Lm.put2]⟩
    · exact ⟨fun x hx => by simp at hx, by simp⟩
  · exact ⟨fun x hx => by simp at hx, by simp⟩
end Go.Proofs.Ytoaeedepfmfkkaa.Lm
