/- What the functions of fen and of its reference answer, in plain Lean: the tree of stakes by their prefix sums. No conditions. -/
import Derived.Test.YtgboamdacnigmaaPFx1
import Derived.Test.YtgboamdacnigmaaPFx3
import Derived.Test.YtgboamdacnigmaaLmScan
import Derived.Test.YtgboamdacnigmaaLmLow
namespace Go.Proofs.Ytgboamdacnigmaa.Lm
open Go.RowKit Go.Proofs.YtgboamdacnigmaaW.PrintWords Go.Proofs.Ytgboamdacnigmaa.PF

theorem low_ok (n : Nat) (h0 : 0 < n) (h1 : n < 9223372036854775808) : fen_low.f (n : Int) = some (lb n : Int) := by
  unfold fen_low.f
  rw [bits_low n h0 h1]
theorem wsub1 {n : Nat} (h0 : 0 < n) (h1 : n < 9223372036854775808) : wrap64 ((n : Int) - 1) = ((n - 1 : Nat) : Int) := by rw [w64_id (by omega) (by omega)]; omega
theorem wadd {a b : Nat} (h : a + b < 9223372036854775808) : wrap64 ((a : Int) + (b : Int)) = ((a + b : Nat) : Int) := by rw [w64_id (by omega) (by omega)]; omega
theorem wsub {a b : Nat} (h : b ≤ a) (h1 : a < 9223372036854775808) : wrap64 ((a : Int) - (b : Int)) = ((a - b : Nat) : Int) := by rw [w64_id (by omega) (by omega)]; omega

theorem flen_ok (t : List Int) : fen_Len.f t = some (t.length : Int) := Eq.trans (by unfold fen_Len.f; rfl) rfl

/-! ### prefix -/
theorem prefix_l {l : List Int} (hl : U64 l) (hm : l.length < 9223372036854775807) : ∀ (n k : Nat) (s : Int), n ≤ l.length → n < k → 0 ≤ s → s + P l n < 18446744073709551616 →
    fen_prefix.l0 k (n : Int) s (tre l) = some (s + P l n) := by
  intro n
  induction n using Nat.strongRecOn with
  | _ n ih =>
    intro k s hn hk h0 h1
    obtain ⟨k, rfl⟩ : ∃ m, k = m + 1 := ⟨k - 1, by omega⟩
    simp only [fen_prefix.l0]
    by_cases c : n = 0
    · subst c
      rw [if_neg (by omega), P_zero, Int.add_zero]
    · have hp := lb_pos n (by omega)
      have hr := rd_tre (l := l) (n := n) (by omega) hn
      have hn0 := P_nonneg hl (n - lb n)
      have hmo := P_mono hl (a := n - lb n) (b := n) (by omega)
      rw [if_pos (by omega), wsub1 (by omega) (by omega), if_pos (by omega), if_pos (by rw [tre_length]; omega), low_ok n (by omega) (by omega), Option.bind_some, wsub hp.2 (by omega), hr, u64w_id (by omega) (by omega),
        ih (n - lb n) (by omega) k _ (by omega) (by omega) (by omega) (by omega)]
      congr 1; omega
theorem prefix_ok {l : List Int} (hl : U64 l) (hs : l.sum < 9223372036854775808) (hm : l.length < 9223372036854775807) (n k : Nat) (hn : n ≤ l.length) (hk : n < k) : fen_prefix.f k (tre l) (n : Int) = some (P l n) := by
  unfold fen_prefix.f
  have := P_le hl n
  rw [prefix_l hl hm n k 0 hn hk (by omega) (by omega), Int.zero_add]
theorem ftotal_ok {l : List Int} (hl : U64 l) (hs : l.sum < 9223372036854775808) (hm : l.length < 9223372036854775807) (k : Nat) (hk : l.length < k) : fen_Total.f k (tre l) = some l.sum := by
  unfold fen_Total.f fen_Len.f
  rw [Option.bind_some, tre_length, prefix_ok hl hs hm _ k (by omega) hk, Option.bind_some, P_all (by omega)]
theorem fPrefix_ok {l : List Int} (hl : U64 l) (hs : l.sum < 9223372036854775808) (hm : l.length < 9223372036854775807) (k : Nat) (hk : l.length < k) (n : Int) :
    fen_Prefix.f k (tre l) n = some (if 0 ≤ n ∧ n ≤ l.length then (P l n.toNat, 0) else (0, 3)) := by
  unfold fen_Prefix.f fen_Len.f
  by_cases c : n < 0
  · rw [if_pos c, if_neg (by omega)]
  · rw [if_neg c, Option.bind_some, tre_length]
    by_cases d : n > (l.length : Int)
    · rw [if_pos d, if_neg (by omega)]
    · obtain ⟨m, rfl⟩ := Int.eq_ofNat_of_zero_le (show 0 ≤ n by omega)
      rw [if_neg d, if_pos (by omega), prefix_ok hl hs hm m k (by omega) (by omega), Option.bind_some, Int.toNat_natCast]

theorem fPrefix_at {l : List Int} (hl : U64 l) (hs : l.sum < 9223372036854775808) (hm : l.length < 9223372036854775807) (k : Nat) (hk : l.length < k) (n : Nat) (hn : n ≤ l.length) :
    fen_Prefix.f k (tre l) (n : Int) = some (P l n, 0) := by rw [fPrefix_ok hl hs hm k hk, if_pos (by omega), Int.toNat_natCast]

/-! ### build -/
theorem build_l {l : List Int} (hl : U64 l) (hs : l.sum < 9223372036854775808) (hm : l.length < 4611686018427387904) : ∀ (d k i : Nat) (t : List Int), i + d = l.length + 1 → 0 < i → d < k → t.length = l.length →
    (∀ j, 0 < j → j ≤ l.length → rd t ((j - 1 : Nat) : Int) = rd l ((j - 1 : Nat) : Int) + P l (cov (i - 1) j) - P l (j - lb j)) → fen_Build.l0 k t (i : Int) = some (tre l, 0) := by
  intro d
  induction d with
  | zero =>
    intro k i t hi h0 hk ht hv
    obtain ⟨k, rfl⟩ : ∃ m, k = m + 1 := ⟨k - 1, by omega⟩
    simp only [fen_Build.l0]
    rw [if_neg (by omega)]
    have : t = tre l := ext_tre ht fun j h1 h2 => by
      rw [hv j h1 h2, cov_late _ _ (by omega)]
      have := P_succ (l := l) (n := j - 1) (by omega)
      rw [show j - 1 + 1 = j by omega] at this
      omega
    rw [this]
  | succ d ih =>
    intro k i t hi h0 hk ht hv
    obtain ⟨k, rfl⟩ : ∃ m, k = m + 1 := ⟨k - 1, by omega⟩
    simp only [fen_Build.l0]
    have hp := lb_pos i h0
    rw [if_pos (by omega), low_ok i h0 (by omega), Option.bind_some, wadd (by omega), show wrap64 ((i : Int) + 1) = ((i + 1 : Nat) : Int) by rw [w64_id (by omega) (by omega)]; omega]
    by_cases c : i + lb i ≤ l.length
    · have hu := hv (i + lb i) (by omega) c
      have hi' := hv i h0 (by omega)
      have cu := cov_up i h0
      rw [cov_late (i - 1) i (by omega)] at hi'
      have ps := P_succ (l := l) (n := i - 1) (by omega)
      rw [show i - 1 + 1 = i by omega] at ps
      have hval : rd t ((i - 1 : Nat) : Int) = P l i - P l (i - lb i) := by omega
      rw [cu.1] at hu
      have hb1 := P_mono hl (a := i) (b := i + lb i - 1) (by omega)
      have ps2 := P_succ (l := l) (n := i + lb i - 1) (by omega)
      rw [show i + lb i - 1 + 1 = i + lb i by omega] at ps2
      have hb2 := P_le hl (i + lb i)
      have hb3 := P_mono hl (a := i + lb i - lb (i + lb i)) (b := i - lb i) (lb_up i h0)
      have hb4 := P_mono hl (a := i - lb i) (b := i) (by omega)
      have hb5 := P_nonneg hl (i + lb i - lb (i + lb i))
      have hb6 := hl.rd ((i + lb i - 1 : Nat) : Int)
      rw [if_pos (by omega), wsub1 (by omega) (by omega), wsub1 (by omega) (by omega), if_pos (by omega), if_pos (by omega), if_pos (by omega), if_pos (by omega), hval, u64w_id (by omega) (by omega), Int.toNat_natCast]
      refine ih k (i + 1) _ (by omega) (by omega) (by omega) (by simpa using ht) fun j h1 h2 => ?_
      rw [rd_set _ _ (by omega), show i + 1 - 1 = i by omega]
      by_cases e : j = i + lb i
      · subst e
        rw [if_pos rfl, cu.2]
        omega
      · rw [if_neg (by omega), hv j h1 h2]
        by_cases g : i < j
        · rw [cov_other j h1 i h0 g (by omega)]
        · rw [cov_late _ _ (by omega), cov_late _ _ (by omega)]
    · rw [if_neg (by omega)]
      refine ih k (i + 1) t (by omega) (by omega) (by omega) ht fun j h1 h2 => ?_
      rw [hv j h1 h2, show i + 1 - 1 = i by omega]
      by_cases g : i < j
      · rw [cov_other j h1 i h0 g (by omega)]
      · rw [cov_late _ _ (by omega), cov_late _ _ (by omega)]
theorem build_one (k : Nat) (l : List Int) (hl : U64 l) (c : l.sum < 9223372036854775808) (hk : l.length + 1 < k) (hm : l.length < 1048577) : fen_Build.l0 k l 1 = some (tre l, 0) := by
  have h := build_l hl c (by omega) l.length k 1 l (by omega) (by omega) (by omega) rfl (fun j h1 h2 => by
    rw [Nat.sub_self, cov_zero j h1]; omega)
  exact h
theorem build_ok (k : Nat) (l : List Int) (hl : U64 l) (hk : l.length + 1 < k) (hm : l.length < 1048577) :
    fen_Build.f k l = some (if l.sum < 9223372036854775808 then (tre l, 0) else ([], 11)) := by
  unfold fen_Build.f
  rw [if_neg (by omega), total_ok k l hl (by omega) (by omega), Option.bind_some]
  by_cases c : l.sum < 9223372036854775808
  · rw [if_pos c, if_pos rfl, clone_ok l (by omega), Option.bind_some, if_pos c]
    exact build_one k l hl c hk hm
  · rw [if_neg c, if_neg c, if_neg (by decide)]

theorem build_at (k : Nat) (l : List Int) (hl : U64 l) (hk : l.length + 1 < k) (hm : l.length < 1048577) (hs : l.sum < 9223372036854775808) : fen_Build.f k l = some (tre l, 0) := by rw [build_ok k l hl hk hm, if_pos hs]

/-! ### owner -/
theorem descend_l {l : List Int} (hl : U64 l) (hs : l.sum < 9223372036854775808) (hm : l.length < 4611686018427387904) (t : Int) (h0 : 0 ≤ t) (h1 : t < l.sum) : ∀ (e k c : Nat), e < 62 → e + 1 < k → c * 2 ^ (e + 1) ≤ l.length →
    P l (c * 2 ^ (e + 1)) ≤ t → (∀ n, n ≤ l.length → (c + 1) * 2 ^ (e + 1) ≤ n → t < P l n) →
    ∃ n : Nat, n < l.length ∧ fen_Owner.l1 k (t - P l (c * 2 ^ (e + 1))) ((c * 2 ^ (e + 1) : Nat) : Int) ((2 ^ e : Nat) : Int) (tre l) = some ((n : Int), 0) ∧ P l n ≤ t ∧ t < P l (n + 1) := by
  have last : ∀ (k m : Nat), 0 < k → m ≤ l.length → P l m ≤ t → (∀ n, n ≤ l.length → m + 1 ≤ n → t < P l n) →
      ∃ n : Nat, n < l.length ∧ fen_Owner.l1 k (t - P l m) (m : Int) 0 (tre l) = some ((n : Int), 0) ∧ P l n ≤ t ∧ t < P l (n + 1) := by
    intro k m hk h2 h3 h4
    obtain ⟨k, rfl⟩ : ∃ m, k = m + 1 := ⟨k - 1, by omega⟩
    have hlt : m < l.length := by
      rcases Nat.lt_or_ge m l.length with h | h
      · exact h
      · rw [P_all h] at h3; omega
    exact ⟨m, hlt, by simp only [fen_Owner.l1]; rw [if_neg (by omega)], h3, h4 (m + 1) (by omega) (by omega)⟩
  intro e
  induction e with
  | zero =>
    intro k c he hk hc hp ha
    obtain ⟨k, rfl⟩ : ∃ m, k = m + 1 := ⟨k - 1, by omega⟩
    simp only [fen_Owner.l1, flen_ok, bs, tre_length]
    rw [Nat.zero_add, Nat.pow_one] at *
    rw [Nat.pow_zero, if_pos (by decide), wadd (by omega)]
    by_cases g : c * 2 + 1 ≤ l.length
    · have hr := rd_tre (l := l) (n := c * 2 + 1) (by omega) g
      rw [show c * 2 + 1 = 2 * c + 1 by omega, lb_odd, show 2 * c + 1 - 1 = c * 2 by omega, show 2 * c + 1 = c * 2 + 1 by omega] at hr
      have hq := P_le hl (c * 2 + 1)
      have hq2 := P_nonneg hl (c * 2)
      rw [if_pos (by omega), wsub1 (by omega) (by omega), if_pos (by omega), if_pos (by omega), show c * 2 + 1 - 1 = c * 2 by omega, hr]
      by_cases d : P l (c * 2 + 1) - P l (c * 2) ≤ t - P l (c * 2)
      · have hq3 := P_mono hl (a := c * 2) (b := c * 2 + 1) (by omega)
        rw [if_pos d, u64w_id (by omega) (by omega), show t - P l (c * 2) - (P l (c * 2 + 1) - P l (c * 2)) = t - P l (c * 2 + 1) by omega, show ((1 : Nat) : Int) / 2 = 0 by decide]
        exact last k (c * 2 + 1) (by omega) g (by omega) (fun n h2 h3 => ha n h2 (by omega))
      · rw [if_neg d, show ((1 : Nat) : Int) / 2 = 0 by decide]
        refine last k (c * 2) (by omega) hc hp (fun n h2 h3 => ?_)
        have := P_mono hl (a := c * 2 + 1) (b := n) h3
        omega
    · rw [if_neg (by omega), show ((1 : Nat) : Int) / 2 = 0 by decide]
      exact last k (c * 2) (by omega) hc hp (fun n h2 h3 => by omega)
  | succ e ih =>
    intro k c he hk hc hp ha
    obtain ⟨k, rfl⟩ : ∃ m, k = m + 1 := ⟨k - 1, by omega⟩
    simp only [fen_Owner.l1, flen_ok, bs, tre_length]
    have e1 : 2 ^ (e + 1 + 1) = 2 * 2 ^ (e + 1) := by rw [Nat.pow_succ]; omega
    have e2 : 2 ^ (e + 1) = 2 * 2 ^ e := by rw [Nat.pow_succ]; omega
    have hpos := Nat.two_pow_pos e
    have hbig : 2 ^ (e + 1) ≤ 4611686018427387904 := by
      have := Nat.pow_le_pow_right (n := 2) (by decide) (show e + 1 ≤ 62 by omega)
      simpa using this
    have e3 : c * 2 ^ (e + 1 + 1) = (2 * c) * 2 ^ (e + 1) := by rw [e1]; ac_rfl
    have e4 : c * 2 ^ (e + 1 + 1) + 2 ^ (e + 1) = (2 * c + 1) * 2 ^ (e + 1) := by rw [e3, Nat.add_mul]; omega
    have half : ((2 ^ (e + 1) : Nat) : Int) / 2 = ((2 ^ e : Nat) : Int) := by rw [e2]; omega
    have e5 : (c + 1) * 2 ^ (e + 1 + 1) = (2 * c + 1 + 1) * 2 ^ (e + 1) := by rw [e1, show 2 * c + 1 + 1 = (c + 1) * 2 by omega]; ac_rfl
    rw [if_pos (by omega), wadd (by omega), half, e4]
    by_cases g : (2 * c + 1) * 2 ^ (e + 1) ≤ l.length
    · have hr := rd_tre (l := l) (n := (2 * c + 1) * 2 ^ (e + 1)) (by omega) g
      rw [show lb ((2 * c + 1) * 2 ^ (e + 1)) = 2 ^ (e + 1) by rw [Nat.mul_comm, lb_pow], show (2 * c + 1) * 2 ^ (e + 1) - 2 ^ (e + 1) = (2 * c) * 2 ^ (e + 1) by rw [Nat.add_mul]; omega] at hr
      rw [e3] at hp ⊢
      have hq := P_le hl ((2 * c + 1) * 2 ^ (e + 1))
      have hq2 := P_nonneg hl ((2 * c) * 2 ^ (e + 1))
      rw [if_pos (by omega), wsub1 (by omega) (by omega), if_pos (by omega), if_pos (by omega), hr]
      by_cases d : P l ((2 * c + 1) * 2 ^ (e + 1)) - P l ((2 * c) * 2 ^ (e + 1)) ≤ t - P l ((2 * c) * 2 ^ (e + 1))
      · rw [if_pos d]
        have hq3 := P_mono hl (a := (2 * c) * 2 ^ (e + 1)) (b := (2 * c + 1) * 2 ^ (e + 1)) (by rw [Nat.add_mul]; omega)
        rw [u64w_id (by omega) (by omega), show ∀ A B : Int, t - A - (B - A) = t - B by intro A B; omega]
        exact ih k (2 * c + 1) (by omega) (by omega) g (by omega) (fun n h2 h3 => ha n h2 (by rw [e5]; exact h3))
      · rw [if_neg d]
        refine ih k (2 * c) (by omega) (by omega) (by rw [← e3]; exact hc) hp (fun n h2 h3 => ?_)
        have := P_mono hl (a := (2 * c + 1) * 2 ^ (e + 1)) (b := n) h3
        omega
    · rw [if_neg (by omega), e3]
      rw [e3] at hp
      exact ih k (2 * c) (by omega) (by omega) (by rw [← e3]; exact hc) hp (fun n h2 h3 => by omega)
theorem climb_l {l : List Int} (hl : U64 l) (hs : l.sum < 9223372036854775808) (hm : l.length < 2305843009213693952) (t : Int) (h0 : 0 ≤ t) (h1 : t < l.sum) : ∀ (d e k : Nat), e + d = 61 → 2 ^ e ≤ l.length → d + 66 < k →
    ∃ n : Nat, n < l.length ∧ fen_Owner.l0 k t 0 ((2 ^ e : Nat) : Int) (tre l) = some ((n : Int), 0) ∧ P l n ≤ t ∧ t < P l (n + 1) := by
  intro d
  induction d with
  | zero =>
    intro e k he hle hk
    obtain rfl : e = 61 := by omega
    simp at hle; omega
  | succ d ih =>
    intro e k he hle hk
    obtain ⟨k, rfl⟩ : ∃ m, k = m + 1 := ⟨k - 1, by omega⟩
    simp only [fen_Owner.l0, flen_ok, bs, tre_length]
    have e2 : 2 ^ (e + 1) = 2 * 2 ^ e := by rw [Nat.pow_succ]; omega
    rw [show wrap64 (((2 ^ e : Nat) : Int) * 2) = ((2 ^ (e + 1) : Nat) : Int) by rw [w64_id (by omega) (by omega), e2]; omega]
    by_cases c : 2 ^ (e + 1) ≤ l.length
    · rw [if_pos (by omega)]
      exact ih (e + 1) k (by omega) c (by omega)
    · rw [if_neg (by omega)]
      have h := descend_l hl hs (by omega) t h0 h1 e k 0 (by omega) (by omega) (by omega) (by rw [Nat.zero_mul, P_zero]; exact h0) (fun n h2 h3 => by omega)
      simpa [P_zero] using h
theorem owner_ok {l : List Int} (hl : U64 l) (hs : l.sum < 9223372036854775808) (hm : l.length < 2305843009213693952) (k : Nat) (hk : l.length < k) (hk2 : 200 < k) (t : Int) (ht : 0 ≤ t) :
    fen_Owner.f k (tre l) t = some (ownr l 0 t) := by
  unfold fen_Owner.f
  rw [ftotal_ok hl hs (by omega) k hk, Option.bind_some]
  rcases ownr_spec l 0 t ht hl with ⟨n, h1, h2, h3, h4, h5⟩ | ⟨h1, h2⟩
  · have hlt : t < l.sum := by
      have := P_le hl (n + 1)
      unfold P at this
      omega
    rw [if_neg (by omega)]
    obtain ⟨m, g1, g2, g3, g4⟩ := climb_l hl hs hm t ht hlt 61 0 k (by omega) (by simp; omega) (by omega)
    rw [show ((2 ^ 0 : Nat) : Int) = 1 by rfl] at g2
    rw [g2, h2, Int.zero_add]
    have : m = n := by
      rcases Nat.lt_trichotomy m n with c | c | c
      · have := P_mono hl (a := m + 1) (b := n) c
        unfold P at *; omega
      · exact c
      · have := P_mono hl (a := n + 1) (b := m) c
        unfold P at *; omega
    rw [this]
  · rw [if_pos (by omega), h1]
end Go.Proofs.Ytgboamdacnigmaa.Lm
