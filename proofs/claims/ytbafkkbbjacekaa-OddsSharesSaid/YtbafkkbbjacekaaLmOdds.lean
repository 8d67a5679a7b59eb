/- What the functions of odds and of its reference answer, as closed numbers. No conditions. -/
import Derived.Test.YtbafkkbbjacekaaPSx1
import Derived.Test.YtbafkkbbjacekaaPSx3
import Derived.Test.YtbafkkbbjacekaaPSx4
import Derived.Test.YtbafkkbbjacekaaPSx5
import Derived.Test.YtbafkkbbjacekaaLmDiv
import Derived.Test.YtbafkkbbjacekaaLmNatR
import Derived.Test.YtbafkkbbjacekaaLmSafe
namespace Go.Proofs.Ytbafkkbbjacekaa.Lm
open Go.RowKit Go.Proofs.YtbafkkbbjacekaaW.PrintWords Go.Proofs.Ytbafkkbbjacekaa.PS

theorem ipow_le {x y : Int} (h0 : 0 ≤ x) (h : x ≤ y) (n : Nat) : x ^ n ≤ y ^ n := by
  induction n with
  | zero => simp
  | succ n ih =>
    rw [Int.pow_succ, Int.pow_succ]
    exact Int.mul_le_mul ih h h0 (Int.pow_nonneg (by omega))
theorem two_mono {n m : Nat} (h : n ≤ m) : (2 : Int) ^ n ≤ 2 ^ m := by
  obtain ⟨d, rfl⟩ := Nat.exists_eq_add_of_le h
  rw [Int.pow_add]
  have := Int.mul_le_mul_of_nonneg_left (show (1 : Int) ≤ 2 ^ d from pow_two_pos d) (Int.le_of_lt (pow_two_pos n))
  omega
/-- A number of at most 4032 bits, and one, is written in 127 limbs. -/
theorem len127 {x : Int} (h0 : 0 ≤ x) {p : Nat} (hp : p ≤ 4032) (h1 : x ≤ 2 ^ p) : (nl x).length ≤ 127 := by
  refine nl_len h0 ?_
  have h2 := two_mono hp
  have e : (4294967296 : Int) ^ 126 = 2 ^ 4032 := by rw [show (4294967296 : Int) = 2 ^ 32 by decide, ← Int.pow_mul]
  have q := Bpos 126
  rw [Bsucc 126, e]
  rw [e] at q
  generalize (2 : Int) ^ 4032 = Y at *
  omega
/-- Is the game one that the functions answer. -/
def may (n m : Int) : Prop := 0 < n ∧ n < 9223372036854775808 ∧ 0 < m ∧ m ≤ 64
instance (n m : Int) : Decidable (may n m) := by unfold may; exact inferInstance
def aA (n : Int) (m : Nat) : Int := 2 ^ (need n * m)
def aR (n : Int) : Int := 2 ^ need n - n
def aL (n : Int) (m : Nat) : Int := aR n ^ m
def aE (n : Int) (m : Nat) : Int := (aA n m - aL n m) / n
theorem aA_pow (n : Int) (m : Nat) : aA n m = (2 ^ need n) ^ m := Int.pow_mul
section
variable {n : Int} (h0 : 0 < n) (h1 : n < 9223372036854775808)
include h0 in
theorem aR_nonneg : 0 ≤ aR n := by have := need_ge h0; unfold aR; omega
include h0 in
theorem aL_le (m : Nat) : 0 ≤ aL n m ∧ aL n m ≤ aA n m := by
  refine ⟨Int.pow_nonneg (aR_nonneg h0), ?_⟩
  rw [aA_pow]
  exact ipow_le (aR_nonneg h0) (by unfold aR; omega) m
include h0 h1 in
theorem need_mul {m : Nat} (hm : m ≤ 64) : need n * m ≤ 4032 := Nat.mul_le_mul (need_le h0 h1) hm
include h0 h1 in
theorem aA_len {m : Nat} (hm : m ≤ 64) {x : Int} (hx : 0 ≤ x) (h : x ≤ aA n m) : (nl x).length ≤ 127 := len127 hx (need_mul h0 h1 hm) h
/-- The ranges' difference of powers, over n, is a sum of products: no rest. -/
theorem pow_sub (X Y : Int) : ∀ m : Nat, ∃ S, X ^ m - Y ^ m = (X - Y) * S := by
  intro m
  induction m with
  | zero => exact ⟨0, by simp⟩
  | succ m ih =>
    obtain ⟨S, e⟩ := ih
    refine ⟨X * S + Y ^ m, ?_⟩
    rw [Int.pow_succ, Int.pow_succ]
    have : X ^ m = Y ^ m + (X - Y) * S := by omega
    rw [this]; grind
include h0 in
theorem aE_mul (m : Nat) : n * aE n m = aA n m - aL n m := by
  obtain ⟨S, e⟩ := pow_sub (2 ^ need n) (aR n) m
  rw [← aA_pow, show (2 : Int) ^ need n - aR n = n by unfold aR; omega] at e
  unfold aE
  rw [show aA n m - aL n m = n * S from e, Int.mul_ediv_cancel_left _ (by omega)]
include h0 in
theorem aE_le (m : Nat) : 0 ≤ aE n m ∧ aE n m ≤ aA n m := by
  have l := aL_le h0 m
  have e := aE_mul h0 m
  have p : 0 ≤ aE n m := Int.ediv_nonneg (by omega) (by omega)
  have := Int.mul_le_mul_of_nonneg_right (show 1 ≤ n by omega) p
  exact ⟨p, by omega⟩
include h0 in
theorem share_le (m : Nat) {a : Int} (ha0 : 0 ≤ a) (ha1 : a ≤ n) : 0 ≤ a * aE n m ∧ a * aE n m ≤ aA n m := by
  have l := aL_le h0 m
  have e := aE_mul h0 m
  have p := (aE_le h0 m).1
  have := Int.mul_le_mul_of_nonneg_right ha1 p
  exact ⟨Int.mul_nonneg ha0 p, by omega⟩
end
theorem may_p (n m : Int) : odds_game_may.f n m = some (decide (may n m)) := by
  unfold odds_game_may.f safe_Fits.f may
  by_cases a : n > 0
  · rw [if_pos a, bs]
    by_cases b : n < 9223372036854775808
    · rw [if_pos (by simp [b])]
      by_cases c : m > 0
      · rw [if_pos c]; simp [c, b, a]
      · rw [if_neg c]; exact congrArg some (decide_eq_false (by omega)).symm
    · rw [if_neg (by simp [b])]; exact congrArg some (decide_eq_false (by omega)).symm
  · rw [if_neg a]; exact congrArg some (decide_eq_false (by omega)).symm
section
variable {n : Int} {m : Nat} (h0 : 0 < n) (h1 : n < 9223372036854775808) (hm0 : 0 < m) (hm : m ≤ 64) (k : Nat) (hk : 310000 ≤ k)
include h0 h1 hm0 hm
include hk
omit hm0 in
theorem gbits_p : odds_game_bits.f k n (m : Int) = some ((need n * m : Nat) : Int) := by
  have := need_mul h0 h1 hm
  unfold odds_game_bits.f
  rw [need_p h0 h1 k (by omega), bs, ← Int.natCast_mul, w64_id (by omega) (by omega)]
omit hm0 hk in
theorem two_b : nat_Two.f ((need n * m : Nat) : Int) = some (nl (aA n m), 0) := by
  have := need_mul h0 h1 hm
  rw [two_p (by omega) (by omega), Int.toNat_natCast]; rfl
omit hm0 hk in
theorem rpow_len (p : Nat) (hp : p ≤ m) : (nl (aR n ^ p)).length ≤ 127 := aA_len h0 h1 (m := p) (by omega) (aL_le h0 p).1 (aL_le h0 p).2
theorem glost_p : odds_game_lost.f k n (m : Int) = some (nl (aL n m), 0) := by
  have a := need_le h0 h1
  have b := need_ge h0
  unfold odds_game_lost.f
  rw [need_p h0 h1 k (by omega), bs, two_p (by omega) (by omega), Int.toNat_natCast, bs, if_pos rfl, of_p (by omega) (by omega) k (by omega), bs]
  have l : (nl (2 ^ need n)).length ≤ 127 := len127 (Int.le_of_lt (pow_two_pos _)) (by omega) (Int.le_refl _)
  have l2 := rpow_len h0 h1 hm 1 (by omega)
  rw [Int.pow_one] at l2
  rw [sub_p (by omega) b (by omega) k (by omega), bs, if_pos rfl, show (2 : Int) ^ need n - n = aR n from rfl,
    pow_p (aR_nonneg h0) (by omega) hm (fun p hp => by have := rpow_len h0 h1 hm p hp; omega) k (by omega), bs]; rfl
theorem geach_p : odds_game_each.f k n (m : Int) = some (nl (aE n m), 0) := by
  have l := aL_le h0 m
  have la := aA_len h0 h1 hm (x := aA n m) (by omega) (Int.le_refl _)
  have lb := aA_len h0 h1 hm (x := aA n m - aL n m) (by omega) (by omega)
  unfold odds_game_each.f
  rw [gbits_p h0 h1 hm k hk, bs, two_b h0 h1 hm, bs, if_pos rfl, glost_p h0 h1 hm0 hm k hk, bs, if_pos rfl, sub_p l.1 l.2 (by omega) k (by omega), bs, if_pos rfl, div_p (by omega) (by omega) h0 h1 k (by omega), bs]; rfl
theorem gshare_p {a : Int} (ha0 : 0 ≤ a) (ha1 : a ≤ n) : odds_game_share.f k n (m : Int) a = some (nl (a * aE n m), 0) := by
  have e := aE_le h0 m
  have s := share_le h0 m ha0 ha1
  have le := aA_len h0 h1 hm e.1 e.2
  have ls := aA_len h0 h1 hm s.1 s.2
  have la : (nl a).length ≤ 2 := nl_len ha0 (by omega)
  unfold odds_game_share.f
  rw [geach_p h0 h1 hm0 hm k hk, bs, if_pos rfl, of_p ha0 (by omega) k (by omega), bs]
  have q := mul_p [a, aE n m] (fun x hx => by
    rcases List.mem_cons.1 hx with z | z
    · exact z ▸ ⟨ha0, by omega⟩
    · have z := List.mem_singleton.1 z
      exact z ▸ ⟨e.1, by omega⟩) (by simp) (fun p hp => by
    match p, hp with
    | 0, _ => exact ⟨by simp [pr], by rw [show pr (List.take 0 [a, aE n m]) = 1 from rfl, nl_one]; decide⟩
    | 1, _ => rw [show pr (List.take 1 [a, aE n m]) = a * 1 from rfl, Int.mul_one]; exact ⟨ha0, by omega⟩
    | 2, _ => rw [show pr (List.take 2 [a, aE n m]) = a * (aE n m * 1) from rfl, Int.mul_one]; exact ⟨s.1, by omega⟩
    | p + 3, hp => simp at hp) k (by omega)
  rw [show [a, aE n m].map nl = [nl a, nl (aE n m)] from rfl, show pr [a, aE n m] = a * (aE n m * 1) from rfl, Int.mul_one] at q
  rw [q, bs]
omit hk
include hk
end
section
variable {n m : Int} (h : ¬ may n m) (k : Nat)
include h
end
/-- What a table of stakes answers for one of its places, each stake weighed w times. -/
def stakeF (w i m : Int) (l : List Int) : List Int × Int :=
  if 0 < m ∧ m ≤ 64 then (if l.sum < 9223372036854775808 then (if l.sum = 0 then ([], 10) else (if l.sum * w < 9223372036854775808 then (if 0 ≤ i ∧ i < l.length then (nl (w * rd l i * aE (l.sum * w) m.toNat), 0) else ([], 3)) else ([], 11))) else ([], 11)) else ([], 1)
theorem rd_le_sum {l : List Int} (hl : U64 l) {i : Int} (h0 : 0 ≤ i) (h1 : i < l.length) : rd l i ≤ l.sum := by
  obtain ⟨n, rfl⟩ := Int.eq_ofNat_of_zero_le h0
  have a := sum_take_drop l n
  have b := sum_drop_step (l := l) (n := n) (by omega)
  have c := sum_nonneg (hl.take n)
  have d := sum_nonneg (hl.drop (n + 1))
  omega
theorem stake_p {l : List Int} (hl : U64 l) (hm : l.length ≤ 1000) {w : Int} (hw0 : 0 ≤ w) (hw1 : w ≤ 1000) (hw : 0 < l.length → 0 < w) (i m : Int) (k : Nat) (hk : 310000 ≤ k) : odds_stake.f k i m w l = some (stakeF w i m l) := by
  have hs := sum_nonneg hl
  unfold odds_stake.f stakeF
  rw [may_p, bs]
  by_cases c : 0 < m ∧ m ≤ 64
  · obtain ⟨M, rfl⟩ := Int.eq_ofNat_of_zero_le (show 0 ≤ m by omega)
    rw [if_pos (decide_eq_true ⟨by omega, by omega, c.1, c.2⟩), if_pos c]
    unfold odds_sum.f
    rw [total_ok k l hl (by omega) (by omega), bs]
    by_cases c1 : l.sum < 9223372036854775808
    · rw [if_pos c1, if_pos c1]
      rw [mul_ok ⟨hs, by omega⟩ ⟨hw0, by omega⟩, bs, if_pos rfl]
      by_cases c2 : l.sum = 0
      · rw [if_pos c2, if_pos c2, bs, if_neg (by decide)]
      · rw [if_neg c2, if_neg c2]
        have hlen : 0 < l.length := by
          rcases Nat.eq_zero_or_pos l.length with z | z
          · exact absurd (by rw [List.eq_nil_of_length_eq_zero z]; rfl) c2
          · exact z
        have hw := hw hlen
        by_cases c3 : l.sum * w < 9223372036854775808
        · rw [if_pos c3, if_pos c3, if_pos rfl]
          by_cases c4 : 0 ≤ i ∧ i < l.length
          · rw [if_neg (by omega), if_neg (by omega), if_pos c4, bs, if_pos rfl, if_pos c4.1, if_pos c4.2]
            have hr := rd_le_sum hl c4.1 c4.2
            have hr0 := (hl.rd i).1
            have q0 := Int.mul_nonneg hw0 hr0
            have q1 := Int.mul_le_mul_of_nonneg_left hr hw0
            rw [Int.mul_comm w l.sum] at q1
            have q2 : 0 < l.sum * w := Int.mul_pos (by omega) hw
            rw [u64w_id q0 (by omega), gshare_p q2 c3 (by omega) (by omega) k hk q0 q1, bs, Int.toNat_natCast]
          · rw [if_neg c4]
            by_cases c5 : i < 0
            · rw [if_pos c5, bs, if_neg (by decide)]
            · rw [if_neg c5, if_pos (by omega), bs, if_neg (by decide)]
        · rw [if_neg c3, if_neg c3, if_neg (by decide), bs, if_neg (by decide)]
    · rw [if_neg c1, if_neg c1]
      rw [mul_ok ⟨by omega, by omega⟩ ⟨hw0, by omega⟩, bs, if_neg (by decide), bs, if_neg (by decide)]
  · rw [if_neg (by simp; intro q; have := q.2.2; exact c this), if_neg c]
theorem lead_p {l : List Int} (hl : U64 l) (hm : l.length ≤ 1000) (i m : Int) (k : Nat) (hk : 310000 ≤ k) : odds_Lead.f k i m l = some (stakeF 1 i m l) := by
  unfold odds_Lead.f
  rw [stake_p hl hm (by omega) (by omega) (fun _ => by omega) i m k hk, bs]
theorem pick_p {l : List Int} (hl : U64 l) (hm : l.length ≤ 1000) (i m : Int) (k : Nat) (hk : 310000 ≤ k) : odds_Pick.f k i m l = some (stakeF l.length i m l) := by
  unfold odds_Pick.f
  rw [u64w_id (by omega) (by omega), stake_p hl hm (by omega) (by omega) (fun _ => by omega) i m k hk, bs]
end Go.Proofs.Ytbafkkbbjacekaa.Lm
