/- The division of a number by a word, bit by bit; and how many bits a word's range needs. No conditions. -/
import Derived.Test.YtgfkclgpphnjfaaDoorPNx4
import Derived.Test.YtgfkclgpphnjfaaDoorLmNat
namespace Go.Proofs.YtgfkclgpphnjfaaDoor.Lm
open Go.RowKit Go.Proofs.YtgfkclgpphnjfaaDoorW.PrintWords Go.Proofs.YtgfkclgpphnjfaaDoor.PN

theorem u32w_id (n : Int) (h0 : 0 ≤ n) (h1 : n < 2 ^ 32) : IntKind.u32.wrap n = n := by rw [IntKind.wrap_u32]; omega
theorem u64w_id' (n : Int) (h0 : 0 ≤ n) (h1 : n < 2 ^ 64) : IntKind.u64.wrap n = n := u64w_id h0 h1
theorem bit_p {x : Int} (h0 : 0 ≤ x) (h1 : x < 4294967296) {e : Nat} (he : e < 32) : Go.bits .and .u32 (shr .u32 x (e : Int)) 1 = x / 2 ^ e % 2 := by
  have e3 : shr .u32 x (e : Int) = x / 2 ^ e := by
    unfold shr; rw [Int.toNat_natCast, Nat.min_eq_left (show e ≤ IntKind.u32.bits from Nat.le_of_lt he)]
  have p := two_pow_lt he
  have d0 : 0 ≤ x / 2 ^ e := Int.ediv_nonneg h0 (by omega)
  have d1 : x / 2 ^ e ≤ x := Int.ediv_le_self _ h0
  rw [e3]
  exact bits_mask .u32 32 (by decide) u32w_id 1 (by decide) _ d0 (by omega)
theorem shift_in {r t : Int} (h0 : 0 ≤ r) (h1 : r < 9223372036854775808) (ht : t = 0 ∨ t = 1) : Go.bits .or .u64 (IntKind.u64.wrap (r * 2)) (IntKind.u64.wrap t) = r * 2 + t := by
  rw [u64w_id (x := r * 2) (by omega) (by omega), u64w_id (x := t) (by omega) (by omega)]
  exact bits_join .u64 64 (by decide) u64w_id' 1 _ _ (by omega) (by omega) (by omega) (by omega) (by omega) (by omega)
theorem div_i {a : List Int} (ha : Lim a) (hm : a.length < 1000000) {D : Int} (hD0 : 0 < D) (hD1 : D < 9223372036854775808) (i : Nat) (hi : i < a.length) (H Q : Int) : ∀ (e k c : Nat) (z : List Int) (r q : Int), c + e = 32 → z.length = a.length → Lim z → rd z (i : Int) = q * 2 ^ e → 0 ≤ q → q < 2 ^ c → 0 ≤ r → r < D →
    H * 2 ^ c + rd a (i : Int) / 2 ^ e = (Q * 2 ^ c + q) * D + r →
    ∃ z' r', nat_Div.l1 (k + e + 1) a D z r (i : Int) ((e : Int) - 1) = nat_Div.l0 k a D z' r' ((i : Int) - 1) ∧ z'.length = a.length ∧ Lim z' ∧ z'.drop (i + 1) = z.drop (i + 1) ∧ (∀ p : Nat, p < i → rd z' (p : Int) = rd z (p : Int)) ∧ 0 ≤ r' ∧ r' < D ∧
      H * 4294967296 + rd a (i : Int) = (Q * 4294967296 + rd z' (i : Int)) * D + r' := by
  intro e
  induction e with
  | zero =>
    intro k c z r q hc hz hl hq hq0 hq1 hr0 hr1 hv
    simp only [nat_Div.l1]
    have : c = 32 := by omega
    subst this
    rw [if_neg (by omega), w64_id (by omega) (by omega)]
    refine ⟨z, r, rfl, hz, hl, rfl, fun _ _ => rfl, hr0, hr1, ?_⟩
    rw [hq]
    simpa using hv
  | succ e ih =>
    intro k c z r q hc hz hl hq hq0 hq1 hr0 hr1 hv
    have rx := ha.rd i
    have rz := hl.rd i
    have p := two_pow_lt (show e < 32 by omega)
    generalize hK : k + (e + 1) = K
    simp only [nat_Div.l1]
    rw [show ((e + 1 : Nat) : Int) - 1 = (e : Int) by omega, if_pos (by omega), if_pos (by omega), if_pos (by omega), if_pos (by omega), bit_p rx.1 rx.2 (by omega)]
    have ht : rd a (i : Int) / 2 ^ e % 2 = 0 ∨ rd a (i : Int) / 2 ^ e % 2 = 1 := by omega
    rw [shift_in hr0 (by omega) ht]
    have hx : rd a (i : Int) / 2 ^ (e + 1) = rd a (i : Int) / 2 ^ e / 2 := by rw [Int.pow_succ, Int.ediv_ediv_of_nonneg (by omega)]
    have hq' : (rd z (i : Int)) = (2 * q) * 2 ^ e := by rw [hq, Int.pow_succ]; grind
    have key : H * 2 ^ (c + 1) + rd a (i : Int) / 2 ^ e = (Q * 2 ^ (c + 1) + 2 * q) * D + (r * 2 + rd a (i : Int) / 2 ^ e % 2) := by
      rw [hx] at hv
      have e2 := Int.mul_ediv_add_emod (rd a (i : Int) / 2 ^ e) 2
      generalize rd a (i : Int) / 2 ^ e / 2 = y at *
      generalize rd a (i : Int) / 2 ^ e % 2 = t at *
      rw [← e2, Int.pow_succ]
      grind
    have hps : (2 : Int) ^ (c + 1) = 2 * 2 ^ c := by rw [Int.pow_succ, Int.mul_comm]
    have h32 : (2 : Int) ^ (c + 1) * 2 ^ e = 4294967296 := by rw [← Int.pow_add, show c + 1 + e = 32 by omega]; rfl
    by_cases g : r * 2 + rd a (i : Int) / 2 ^ e % 2 ≥ D
    · rw [if_pos g, if_pos (by omega), shl_one (by omega) (by omega), Int.toNat_natCast, Int.toNat_natCast]
      have ho : Go.bits .or .u32 (rd z (i : Int)) (2 ^ e) = (2 * q + 1) * 2 ^ e := by
        have hs : (2 : Int) ^ (e + 1) = 2 ^ e * 2 := Int.pow_succ 2 e
        rw [bits_join .u32 32 (by decide) u32w_id (e + 1) _ _ rz.1 (by rw [hq]; exact Int.mul_emod_left _ _) (by omega) (by omega) (by omega) (by omega), hq']; grind
      have hb : (2 * q + 1) * 2 ^ e < 4294967296 := by
        have := Int.mul_le_mul_of_nonneg_right (show 2 * q + 1 + 1 ≤ 2 ^ (c + 1) by omega) (show (0 : Int) ≤ 2 ^ e by omega)
        rw [h32, Int.add_mul] at this
        omega
      have hb0 : 0 ≤ (2 * q + 1) * 2 ^ e := Int.mul_nonneg (by omega) (by omega)
      rw [ho, u64w_id (x := r * 2 + rd a (i : Int) / 2 ^ e % 2 - D) (by omega) (by omega), w64_id (x := (e : Int) - 1) (by omega) (by omega), ← hK]
      obtain ⟨z', r', q1, q2, q3, q4, q5, q6⟩ := ih k (c + 1) (z.set i ((2 * q + 1) * 2 ^ e)) (r * 2 + rd a (i : Int) / 2 ^ e % 2 - D) (2 * q + 1) (by omega) (by rw [List.length_set]; exact hz) (hl.set _ ⟨hb0, hb⟩) (rd_set_self (by omega) _) (by omega) (by omega) (by omega) (by omega) (by rw [key]; grind)
      refine ⟨z', r', q1, q2, q3, ?_, fun p hp => ?_, q6⟩
      · rw [q4, List.drop_set_of_lt (by omega)]
      · rw [q5 p hp, rd_set_ne _ (by omega)]
    · rw [if_neg g, w64_id (x := (e : Int) - 1) (by omega) (by omega), ← hK]
      exact ih k (c + 1) z (r * 2 + rd a (i : Int) / 2 ^ e % 2) (2 * q) (by omega) hz hl hq' (by omega) (by omega) (by omega) (by omega) key
theorem div_l {a : List Int} (ha : Lim a) (hm : a.length < 1000000) {D : Int} (hD0 : 0 < D) (hD1 : D < 9223372036854775808) : ∀ (n k : Nat) (z : List Int) (r : Int), n ≤ a.length → n * 34 + a.length + 3 < k → z.length = a.length → Lim z → (∀ p : Nat, p < n → rd z (p : Int) = 0) → 0 ≤ r → r < D →
    vl (a.drop n) = vl (z.drop n) * D + r → nat_Div.l0 k a D z r ((n : Int) - 1) = some (nl (vl a / D), vl a % D, 0) := by
  intro n
  induction n with
  | zero =>
    intro k z r hn hk hz hl h0 hr0 hr1 hv
    obtain ⟨k, rfl⟩ : ∃ m, k = m + 1 := ⟨k - 1, by omega⟩
    simp only [nat_Div.l0]
    rw [if_neg (by omega), trim_p z.length k z rfl hl (by omega) (by omega), bs]
    rw [List.drop_zero, List.drop_zero] at hv
    have u := (Int.ediv_emod_unique hD0 (a := vl a) (q := vl z) (r := r)).2 ⟨by rw [hv, Int.mul_comm]; omega, hr0, hr1⟩
    rw [u.1, u.2]
  | succ n ih =>
    intro k z r hn hk hz hl h0 hr0 hr1 hv
    rw [Nat.succ_mul] at hk
    obtain ⟨k, rfl⟩ : ∃ m, k = m + 32 + 1 + 1 := ⟨k - 34, by omega⟩
    rw [show ((n + 1 : Nat) : Int) - 1 = (n : Int) by omega]
    generalize hK : k + 32 + 1 = K
    simp only [nat_Div.l0]
    rw [if_pos (by omega), ← hK]
    have rx := ha.rd n
    obtain ⟨z', r', q1, q2, q3, q4, q5, q6, q7, q8⟩ := div_i ha hm hD0 hD1 n (by omega) (vl (a.drop (n + 1))) (vl (z.drop (n + 1))) 32 k 0 z r 0 (by omega) hz hl (by rw [h0 n (by omega)]; simp) (by omega) (by decide) hr0 hr1 (by
      rw [show rd a (n : Int) / 2 ^ 32 = 0 from Int.ediv_eq_zero_of_lt rx.1 rx.2]
      simpa using hv)
    rw [show (31 : Int) = ((32 : Nat) : Int) - 1 by decide, q1]
    refine ih k z' r' (by omega) (by omega) q2 q3 (fun p hp => by rw [q5 p hp, h0 p (by omega)]) q6 q7 ?_
    rw [vl_drop a n, vl_drop z' n, q4]
    grind
theorem div_p {a D : Int} (ha : 0 ≤ a) (hl : (nl a).length ≤ 256) (hD0 : 0 < D) (hD1 : D < 9223372036854775808) (k : Nat) (hk : 12000 ≤ k) : nat_Div.f k (nl a) D = some (nl (a / D), a % D, 0) := by
  unfold nat_Div.f
  obtain ⟨k, rfl⟩ : ∃ m, k = m + 1 := ⟨k - 1, by omega⟩
  rw [right_p (Can_nl a) hl _ (by omega), bs, if_pos rfl, if_neg (by omega)]
  simp only [nat_Div.j0]
  rw [if_neg (by simp; omega), if_pos (by omega), Int.toNat_natCast, if_pos (by omega), w64_id (by omega) (by omega)]
  have := div_l (Lim_nl a) (by omega) hD0 hD1 (nl a).length k (List.replicate (nl a).length 0) 0 (Nat.le_refl _) (by omega) (by simp) (Lim.zeros _) (fun p _ => rd_zeros _ p) (by omega) hD0 (by rw [List.drop_eq_nil_of_le (Nat.le_refl _), List.drop_eq_nil_of_le (by simp)]; simp [vl])
  rw [vl_nl ha] at this
  exact this

/-- How many bits a number has. -/
def bl (n : Nat) : Nat := if n = 0 then 0 else bl (n / 2) + 1
termination_by n
decreasing_by exact Nat.div_lt_self (by omega) (by decide)
/-- How many bits a range of n needs. -/
def need (n : Int) : Nat := bl (n - 1).toNat
end Go.Proofs.YtgfkclgpphnjfaaDoor.Lm
