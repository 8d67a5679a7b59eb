/- What the reference's tree of stakes answers, and what the program's stakes, places, sets and grown trees are, in plain Lean. No conditions. -/
import Derived.Test.YtgboamdacnigmaaPFx5
import Derived.Test.YtgboamdacnigmaaPFx4
import Derived.Test.YtgboamdacnigmaaPFx3
import Derived.Test.YtgboamdacnigmaaPFx2
import Derived.Test.YtgboamdacnigmaaLmFen
import Derived.Test.YtgboamdacnigmaaLmScanR
namespace Go.Proofs.Ytgboamdacnigmaa.Lm
open Go.RowKit Go.Proofs.YtgboamdacnigmaaW.PrintWords Go.Proofs.Ytgboamdacnigmaa.PF

/-! ### the reference's tree -/
theorem rlow_l : ∀ n, 0 < n → ∀ (k : Nat) (b : Nat), n < k → n * b < 9223372036854775808 → 0 < b → drawlotref11_low.l0 k (n : Int) (b : Int) = some ((b * lb n : Nat) : Int) := by
  refine halves (fun m => ?_) (fun m h ih => ?_)
  · intro k b hk hn hb
    obtain ⟨k, rfl⟩ : ∃ q, k = q + 1 := ⟨k - 1, by omega⟩
    simp only [drawlotref11_low.l0]
    rw [show Int.tmod ((2 * m + 1 : Nat) : Int) 2 = 1 by rw [Int.tmod_eq_emod_of_nonneg (by omega)]; omega, if_neg (by decide), lb_odd, Nat.mul_one]
  · intro k b hk hn hb
    obtain ⟨k, rfl⟩ : ∃ q, k = q + 1 := ⟨k - 1, by omega⟩
    have hbm : m * (2 * b) = 2 * m * b := by ac_rfl
    have h1 : b ≤ m * b := Nat.le_mul_of_pos_left b h
    have h2 : m ≤ m * b := Nat.le_mul_of_pos_right m hb
    have h3 : 2 * m * b = 2 * (m * b) := by ac_rfl
    simp only [drawlotref11_low.l0]
    rw [show Int.tmod ((2 * m : Nat) : Int) 2 = 0 by rw [Int.tmod_eq_emod_of_nonneg (by omega)]; omega, if_pos rfl,
      show wrap64 (Int.tdiv ((2 * m : Nat) : Int) 2) = (m : Int) by rw [Int.tdiv_eq_ediv_of_nonneg (by omega), w64_id (by omega) (by omega)]; omega,
      show wrap64 (2 * (b : Int)) = ((2 * b : Nat) : Int) by rw [w64_id (by omega) (by omega)]; omega, ih k (2 * b) (by omega) (by omega) (by omega), lb_even m h]
    congr 2; ac_rfl
theorem rlow_ok (n : Nat) (h : 0 < n) (k : Nat) (hk : n < k) (hn : n < 9223372036854775808) : drawlotref11_low.f k (n : Int) = some (lb n : Int) := by
  unfold drawlotref11_low.f
  have := rlow_l n h k 1 hk (by omega) (by omega)
  rw [Nat.one_mul] at this
  exact this
theorem rsum_l {l : List Int} (hl : U64 l) (hm : l.length < 9223372036854775807) (b : Nat) (hb : b ≤ l.length) : ∀ (d k a : Nat) (s : Int), a + d = b → d < k → 0 ≤ s → s + P l b - P l a < 18446744073709551616 →
    drawlotref11_sum.l0 k l (b : Int) s (a : Int) = some (s + P l b - P l a) := by
  intro d
  induction d with
  | zero =>
    intro k a s ha hk h0 h1
    obtain ⟨k, rfl⟩ : ∃ q, k = q + 1 := ⟨k - 1, by omega⟩
    simp only [drawlotref11_sum.l0]
    obtain rfl : a = b := by omega
    rw [if_neg (by omega)]
    congr 1; omega
  | succ d ih =>
    intro k a s ha hk h0 h1
    obtain ⟨k, rfl⟩ : ∃ q, k = q + 1 := ⟨k - 1, by omega⟩
    simp only [drawlotref11_sum.l0]
    have hr := hl.rd (a : Int)
    have hp := P_succ (l := l) (n := a) (by omega)
    have hq := P_mono hl (a := a + 1) (b := b) (by omega)
    rw [if_pos (by omega), if_pos (by omega), if_pos (by omega), u64w_id (by omega) (by omega), step_cast (m := l.length) (by omega) hm, ih k (a + 1) _ (by omega) (by omega) (by omega) (by omega)]
    congr 1; omega
theorem rtree_l {l : List Int} (hl : U64 l) (hs : l.sum < 9223372036854775808) (hm : l.length < 1048577) : ∀ (d k i : Nat), i + d = l.length → d + l.length + 2 < k → drawlotref11_Tree.l0 k l (i : Int) ((tre l).take i) = some (tre l) := by
  intro d
  induction d with
  | zero =>
    intro k i hi hk
    obtain ⟨k, rfl⟩ : ∃ q, k = q + 1 := ⟨k - 1, by omega⟩
    simp only [drawlotref11_Tree.l0]
    rw [if_neg (by omega), List.take_of_length_le (by rw [tre_length]; omega)]
  | succ d ih =>
    intro k i hi hk
    obtain ⟨k, rfl⟩ : ∃ q, k = q + 1 := ⟨k - 1, by omega⟩
    simp only [drawlotref11_Tree.l0]
    have hp := lb_pos (i + 1) (by omega)
    have h1 := P_le hl (i + 1)
    have h2 := P_nonneg hl (i + 1 - lb (i + 1))
    rw [if_pos (by omega), step_cast (m := l.length) (by omega) (by omega), rlow_ok (i + 1) (by omega) k (by omega) (by omega), bs, wsub hp.2 (by omega)]
    unfold drawlotref11_sum.f
    rw [rsum_l hl (by omega) (i + 1) (by omega) (lb (i + 1)) k (i + 1 - lb (i + 1)) 0 (by omega) (by omega) (by omega) (by omega), bs, if_pos (by rw [List.length_take, tre_length]; omega)]
    have e : (tre l).take i ++ [0 + P l (i + 1) - P l (i + 1 - lb (i + 1))] = (tre l).take (i + 1) := by
      rw [take_step (by rw [tre_length]; omega), show (i : Int) = ((i + 1 - 1 : Nat) : Int) by omega, rd_tre (by omega) (by omega)]
      simp
    rw [e]
    exact ih k (i + 1) (by omega) (by omega)
theorem rtree_ok (k : Nat) (l : List Int) (hl : U64 l) (hs : l.sum < 9223372036854775808) (hm : l.length < 1048577) (hk : 2 * l.length + 2 < k) : drawlotref11_Tree.f k l = some (tre l) := by
  unfold drawlotref11_Tree.f
  have h := rtree_l hl hs hm l.length k 0 (by omega) (by omega)
  rw [List.take_zero] at h
  exact h
theorem r11same_ok (k : Nat) (a b : List Int) (hk : a.length < k) (hm : a.length < 9223372036854775807) : drawlotref11_Same.f k a b = some (decide (a = b)) := by
  unfold drawlotref11_Same.f
  rw [same_ok k a b hk hm, bs]

/-! ### stakes -/
theorem stakes_l {l : List Int} (hl : U64 l) (hs : l.sum < 9223372036854775808) (hm : l.length < 4611686018427387904) : ∀ (i k : Nat) (t : List Int), i ≤ l.length → i < k → t.length = l.length →
    (∀ j, 0 < j → j ≤ l.length → rd t ((j - 1 : Nat) : Int) = rd l ((j - 1 : Nat) : Int) + P l (cov i j) - P l (j - lb j)) → fen_Stakes.l0 k t (i : Int) = some l := by
  intro i
  induction i with
  | zero =>
    intro k t hi hk ht hv
    obtain ⟨k, rfl⟩ : ∃ m, k = m + 1 := ⟨k - 1, by omega⟩
    simp only [fen_Stakes.l0]
    rw [if_neg (by omega)]
    have : t = l := ext_rd ht fun j hj => by
      have := hv (j + 1) (by omega) (by omega)
      rw [cov_zero _ (by omega)] at this
      rw [show j = j + 1 - 1 by omega]
      omega
    rw [this]
  | succ i ih =>
    intro k t hi hk ht hv
    obtain ⟨k, rfl⟩ : ∃ m, k = m + 1 := ⟨k - 1, by omega⟩
    simp only [fen_Stakes.l0]
    have hp := lb_pos (i + 1) (by omega)
    rw [if_pos (by omega), low_ok (i + 1) (by omega) (by omega), bs, wadd (by omega), wsub1 (n := i + 1) (by omega) (by omega), show i + 1 - 1 = i by omega]
    have other : ∀ j, 0 < j → j ≤ l.length → j ≠ i + 1 + lb (i + 1) → rd t ((j - 1 : Nat) : Int) = rd l ((j - 1 : Nat) : Int) + P l (cov i j) - P l (j - lb j) := by
      intro j h1 h2 h3
      rw [hv j h1 h2]
      by_cases g : i + 1 < j
      · rw [cov_other j h1 (i + 1) (by omega) g (by omega), show i + 1 - 1 = i by omega]
      · rw [cov_late _ _ (by omega), cov_late _ _ (by omega)]
    by_cases c : i + 1 + lb (i + 1) ≤ l.length
    · have hu := hv (i + 1 + lb (i + 1)) (by omega) c
      have hi' := hv (i + 1) (by omega) hi
      have cu := cov_up (i + 1) (by omega)
      rw [cov_late (i + 1) (i + 1) (by omega), show i + 1 - 1 = i by omega] at hi'
      rw [show i + 1 - 1 = i by omega] at cu
      have ps := P_succ (l := l) (n := i) (by omega)
      have hval : rd t (i : Int) = P l (i + 1) - P l (i + 1 - lb (i + 1)) := by omega
      rw [cu.2] at hu
      have hb3 := P_mono hl (a := i + 1 + lb (i + 1) - lb (i + 1 + lb (i + 1))) (b := i + 1 - lb (i + 1)) (lb_up (i + 1) (by omega))
      have hb4 := P_mono hl (a := i + 1 - lb (i + 1)) (b := i + 1) (by omega)
      have hb5 := P_nonneg hl (i + 1 + lb (i + 1) - lb (i + 1 + lb (i + 1)))
      have hb6 := hl.rd ((i + 1 + lb (i + 1) - 1 : Nat) : Int)
      have hb7 := P_succ (l := l) (n := i + 1 + lb (i + 1) - 1) (by omega)
      rw [show i + 1 + lb (i + 1) - 1 + 1 = i + 1 + lb (i + 1) by omega] at hb7
      have hb8 := P_le hl (i + 1 + lb (i + 1))
      have hb9 := P_mono hl (a := i + 1) (b := i + 1 + lb (i + 1) - 1) (by omega)
      rw [if_pos (by omega), wsub1 (by omega) (by omega), if_pos (by omega), if_pos (by omega), if_pos (by omega), if_pos (by omega), hval, u64w_id (by omega) (by omega), Int.toNat_natCast]
      refine ih k _ (by omega) (by omega) (by simpa using ht) fun j h1 h2 => ?_
      rw [rd_set _ _ (by omega)]
      by_cases e : j = i + 1 + lb (i + 1)
      · subst e
        rw [if_pos rfl, cu.1]
        omega
      · rw [if_neg (by omega), other j h1 h2 e]
    · rw [if_neg (by omega)]
      exact ih k t (by omega) (by omega) ht fun j h1 h2 => other j h1 h2 (by omega)
theorem stakes_ok (k : Nat) (l : List Int) (hl : U64 l) (hs : l.sum < 9223372036854775808) (hm : l.length < 1048577) (hk : l.length < k) : fen_Stakes.f k (tre l) = some l := by
  unfold fen_Stakes.f
  rw [clone_ok _ (by rw [tre_length]; omega), bs, tre_length]
  refine stakes_l hl hs (by omega) l.length k (tre l) (by omega) hk (tre_length l) fun j h1 h2 => ?_
  rw [rd_tre h1 h2, cov_late _ _ (by omega)]
  have := P_succ (l := l) (n := j - 1) (by omega)
  rw [show j - 1 + 1 = j by omega] at this
  omega

/-! ### at, set, grow -/
theorem at_ok {l : List Int} (hl : U64 l) (hs : l.sum < 9223372036854775808) (hm : l.length < 9223372036854775807) (k : Nat) (hk : l.length + 1 < k) (i : Int) :
    fen_At.f k (tre l) i = some (if 0 ≤ i ∧ i < l.length then (rd l i, 0) else (0, 3)) := by
  unfold fen_At.f
  obtain ⟨k, rfl⟩ : ∃ m, k = m + 1 := ⟨k - 1, by omega⟩
  simp only [fen_At.j0, flen_ok, bs, tre_length]
  by_cases c : i < 0
  · rw [if_pos c, if_pos trivial, if_neg (by omega)]
  · rw [if_neg c]
    by_cases d : i ≥ (l.length : Int)
    · rw [decide_eq_true d, if_pos rfl, if_neg (by omega)]
    · obtain ⟨n, rfl⟩ := Int.eq_ofNat_of_zero_le (show 0 ≤ i by omega)
      have hp := P_succ (l := l) (n := n) (by omega)
      have hr := hl.rd (n : Int)
      rw [decide_eq_false d, if_neg (by decide), step_cast (m := l.length) (by omega) hm, prefix_ok hl hs hm (n + 1) k (by omega) (by omega), bs, prefix_ok hl hs hm n k (by omega) (by omega), bs, u64w_id (by omega) (by omega), if_pos (by omega)]
      rw [show P l (n + 1) - P l n = rd l (n : Int) by omega]
theorem set_U64 {l : List Int} (hl : U64 l) (i : Nat) (x : Int) (hx : 0 ≤ x ∧ x < 18446744073709551616) : U64 (l.set i x) := fun y hy => by
  rcases List.mem_or_eq_of_mem_set hy with h | h
  · exact hl y h
  · rw [h]; exact hx
theorem sum_set {l : List Int} {i : Nat} (h : i < l.length) (x : Int) : (l.set i x).sum = l.sum - rd l (i : Int) + x := by
  have := P_set h x l.length
  rw [if_pos h, P_all (by simp), P_all (Nat.le_refl _)] at this
  omega
theorem set_l {l : List Int} (hl : U64 l) (hs : l.sum < 9223372036854775808) (hm : l.length < 4611686018427387904) (i : Nat) (hi : i < l.length) (x : Int) (hx : 0 ≤ x ∧ x < 18446744073709551616) (hs' : (l.set i x).sum < 9223372036854775808) : ∀ (d k n : Nat) (t : List Int), l.length + 1 - n ≤ d → 0 < n → d < k → t.length = l.length → n - lb n ≤ i → i < n →
    (∀ j, 0 < j → j ≤ l.length → rd t ((j - 1 : Nat) : Int) = if j < n then P (l.set i x) j - P (l.set i x) (j - lb j) else P l j - P l (j - lb j)) → n ≤ 2 * l.length → fen_Set.l0 k x (rd l (i : Int)) t (n : Int) = some (tre (l.set i x), 0) := by
  have hl' := set_U64 hl i x hx
  have fin : ∀ (k n : Nat) (t : List Int), l.length < n → 0 < k → t.length = l.length → n ≤ 2 * l.length →
    (∀ j, 0 < j → j ≤ l.length → rd t ((j - 1 : Nat) : Int) = if j < n then P (l.set i x) j - P (l.set i x) (j - lb j) else P l j - P l (j - lb j)) → fen_Set.l0 k x (rd l (i : Int)) t (n : Int) = some (tre (l.set i x), 0) := by
    intro k n t hn hk ht hb hv
    obtain ⟨k, rfl⟩ : ∃ m, k = m + 1 := ⟨k - 1, by omega⟩
    simp only [fen_Set.l0]
    rw [if_neg (by omega)]
    have : t = tre (l.set i x) := ext_tre (by simpa using ht) fun j h1 h2 => by
      rw [List.length_set] at h2
      rw [hv j h1 h2, if_pos (by omega)]
    rw [this]
  intro d
  induction d with
  | zero =>
    intro k n t hn h0 hk ht h1 h2 hv hb
    exact fin k n t (by omega) (by omega) ht hb hv
  | succ d ih =>
    intro k n t hn h0 hk ht h1 h2 hv hb
    by_cases c : n ≤ l.length
    · obtain ⟨k, rfl⟩ : ∃ m, k = m + 1 := ⟨k - 1, by omega⟩
      simp only [fen_Set.l0]
      have hp := lb_pos n h0
      have hvn := hv n h0 c
      rw [if_neg (Nat.lt_irrefl n)] at hvn
      have q1 := P_set hi x n
      have q2 := P_set hi x (n - lb n)
      rw [if_pos h2] at q1
      rw [if_neg (by omega)] at q2
      have b1 := P_le hl n
      have b2 := P_mono hl (a := n - lb n) (b := n) (by omega)
      have b3 := P_nonneg hl (n - lb n)
      have b4 := P_le hl' n
      have b5 := P_mono hl' (a := n - lb n) (b := n) (by omega)
      have b6 := P_mono hl (a := i + 1) (b := n) (by omega)
      have b7 := P_succ hi
      have b8 := P_mono hl (a := n - lb n) (b := i) h1
      rw [if_pos (by omega), wsub1 h0 (by omega), if_pos (by omega), if_pos (by omega), low_ok n h0 (by omega), bs, wadd (by omega), hvn, u64w_id (x := P l n - P l (n - lb n) - rd l (i : Int)) (by omega) (by omega), u64w_id (by omega) (by omega), Int.toNat_natCast]
      refine ih k (n + lb n) _ (by omega) (by omega) (by omega) (by simpa using ht) (by have := lb_up n h0; omega) (by omega) (fun j g1 g2 => ?_) (by omega)
      rw [rd_set _ _ (by omega)]
      by_cases e : j = n
      · subst e
        rw [if_pos rfl, if_pos (by omega)]
        omega
      · rw [if_neg (by omega), hv j g1 g2]
        by_cases g : j < n
        · rw [if_pos g, if_pos (by omega)]
        · rw [if_neg g]
          by_cases f : j < n + lb n
          · have := lb_gap n h0 j (by omega) f
            have r1 := P_set hi x j
            have r2 := P_set hi x (j - lb j)
            rw [if_pos (by omega)] at r1
            rw [if_pos (by omega)] at r2
            rw [if_pos f]
            omega
          · rw [if_neg f]
    · exact fin k n t (by omega) (by omega) ht hb hv
theorem fset_ok {l : List Int} (hl : U64 l) (hs : l.sum < 9223372036854775808) (hm : l.length < 1048577) (k : Nat) (hk : l.length + 2 < k) (i : Int) (x : Int) (hx : 0 ≤ x ∧ x < 18446744073709551616) :
    fen_Set.f k (tre l) i x = some (if 0 ≤ i ∧ i < l.length then (if (l.set i.toNat x).sum < 9223372036854775808 then (tre (l.set i.toNat x), 0) else ([], 11)) else ([], 3)) := by
  unfold fen_Set.f
  rw [at_ok hl hs (by omega) k (by omega) i, bs]
  by_cases c : 0 ≤ i ∧ i < l.length
  · obtain ⟨n, rfl⟩ := Int.eq_ofNat_of_zero_le c.1
    have hn : n < l.length := by omega
    have hr := hl.rd (n : Int)
    have ps := P_succ hn
    have p1 := P_le hl (n + 1)
    have p2 := P_nonneg hl n
    have hsum := sum_set hn x
    rw [if_pos c, if_pos c, if_pos rfl, ftotal_ok hl hs (by omega) k (by omega), bs, Int.toNat_natCast]
    show (safe_Add.f (IntKind.u64.wrap (l.sum - rd l (n : Int))) x).bind _ = _
    rw [u64w_id (by omega) (by omega), add_ok (by omega) hx, bs]
    by_cases d : (l.set n x).sum < 9223372036854775808
    · rw [if_pos (show l.sum - rd l (n : Int) + x < 9223372036854775808 by omega), if_pos d, if_pos rfl, clone_ok _ (by rw [tre_length]; omega), bs, step_cast (m := l.length) hn (by omega)]
      refine set_l hl hs (by omega) n hn x hx d (l.length) k (n + 1) (tre l) (by omega) (by omega) (by omega) (tre_length l) (by have := lb_pos (n + 1) (by omega); omega) (by omega) (fun j h1 h2 => ?_) (by omega)
      rw [rd_tre h1 h2]
      split
      · have q1 := P_set hn x j
        have q2 := P_set hn x (j - lb j)
        rw [if_neg (by omega)] at q1 q2
        omega
      · rfl
    · rw [if_neg (show ¬ l.sum - rd l (n : Int) + x < 9223372036854775808 by omega), if_neg d, if_neg (by decide)]
  · rw [if_neg c, if_neg c, if_neg (by decide)]
theorem grow_ok {l : List Int} (hl : U64 l) (hs : l.sum < 9223372036854775808) (hm : l.length < 1048576) (k : Nat) (hk : l.length + 2 < k) (x : Int) (hx : 0 ≤ x ∧ x < 18446744073709551616) :
    fen_Grow.f k (tre l) x = some (if (l ++ [x]).sum < 9223372036854775808 then (tre (l ++ [x]), 0) else ([], 11)) := by
  unfold fen_Grow.f
  have e : (l ++ [x]).sum = l.sum + x := by simp
  have hlen : (l ++ [x]).length = l.length + 1 := by simp
  have hp := lb_pos (l.length + 1) (by omega)
  have h1 := P_nonneg hl (l.length + 1 - lb (l.length + 1))
  have h2 := P_le hl (l.length + 1 - lb (l.length + 1))
  rw [flen_ok, bs, tre_length, step_cast (m := l.length + 1) (by omega) (by omega), if_neg (by omega), ftotal_ok hl hs (by omega) k (by omega), bs, add_ok (by have := sum_nonneg hl; omega) hx, bs, wsub1 (by omega) (by omega), show l.length + 1 - 1 = l.length by omega,
    prefix_ok hl hs (by omega) l.length k (by omega) (by omega), bs, low_ok _ (by omega) (by omega), bs, wsub hp.2 (by omega), prefix_ok hl hs (by omega) _ k (by omega) (by omega), bs, clone_ok _ (by rw [tre_length]; omega), bs, P_all (Nat.le_refl _), e]
  by_cases c : l.sum + x < 9223372036854775808
  · rw [if_pos c, if_pos rfl, if_pos (by rw [tre_length]; omega), u64w_id (x := l.sum - P l (l.length + 1 - lb (l.length + 1))) (by omega) (by omega), u64w_id (by omega) (by omega), if_pos c]
    have pa : ∀ n, n ≤ l.length → P (l ++ [x]) n = P l n := fun n hn => by unfold P; rw [List.take_append_of_le_length hn]
    have : tre l ++ [l.sum - P l (l.length + 1 - lb (l.length + 1)) + x] = tre (l ++ [x]) := ext_tre (by simp [tre_length]) fun j h1 h2 => by
      by_cases g : j ≤ l.length
      · rw [pa j g, pa _ (by omega), ← rd_tre h1 g, rd_nat, rd_nat, List.getD_eq_getElem?_getD, List.getD_eq_getElem?_getD, List.getElem?_append_left (by rw [tre_length]; omega)]
      · obtain rfl : j = l.length + 1 := by omega
        rw [P_all (l := l ++ [x]) (n := l.length + 1) (by omega), pa _ (by omega), e, rd_nat, List.getD_eq_getElem?_getD, List.getElem?_append_right (by rw [tre_length]; omega), tre_length, show l.length + 1 - 1 - l.length = 0 by omega]
        show l.sum - P l (l.length + 1 - lb (l.length + 1)) + x = _
        omega
    rw [this]
  · rw [if_neg c, if_neg c, if_neg (by decide)]
end Go.Proofs.Ytgboamdacnigmaa.Lm
