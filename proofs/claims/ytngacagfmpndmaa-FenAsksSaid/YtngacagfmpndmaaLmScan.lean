/- What the functions of scan and of its reference answer, in plain Lean. No conditions. -/
import Derived.Test.YtngacagfmpndmaaPFx2
import Derived.Test.YtngacagfmpndmaaLmSafe
namespace Go.Proofs.Ytngacagfmpndmaa.Lm
open Go.RowKit Go.Proofs.YtngacagfmpndmaaW.PrintWords Go.Proofs.Ytngacagfmpndmaa.PF

/-- The owner of a ticket, by the list from place i on. -/
def ownr : List Int → Int → Int → Int × Int
  | [], _, _ => (0, 3)
  | x :: l, i, t => if t < x then (i, 0) else ownr l (i + 1) (t - x)
/-- How many are above 0. -/
def pos : List Int → Int
  | [] => 0
  | x :: l => (if x > 0 then 1 else 0) + pos l
theorem pos_range (l : List Int) : 0 ≤ pos l ∧ pos l ≤ l.length := by
  induction l with
  | nil => simp [pos]
  | cons x l ih => simp only [pos, List.length_cons]; split <;> omega
theorem pos_append (a b : List Int) : pos (a ++ b) = pos a + pos b := by
  induction a with
  | nil => simp [pos]
  | cons x a ih => simp only [pos, List.cons_append, ih]; omega
theorem clone_ok (l : List Int) (h : l.length < 17592186044416) : slices_Clone_uint64_uint64.f l = some l := by
  unfold slices_Clone_uint64_uint64.f
  simp only [Option.bind_some, List.length_nil, Nat.zero_add, List.nil_append]
  rw [if_pos h]
theorem stotal_ok (k : Nat) (l : List Int) (hl : U64 l) (hk : l.length < k) (hm : l.length < 9223372036854775807) :
    scan_Total.f k l = some (if l.sum < 9223372036854775808 then (l.sum, 0) else (0, 11)) := by
  unfold scan_Total.f
  rw [total_ok k l hl hk hm]
  simp only [Option.bind_some]
  split <;> simp
theorem step_cast {n : Nat} {m : Nat} (h : n < m) (hm : m < 9223372036854775807) : wrap64 ((n : Int) + 1) = ((n + 1 : Nat) : Int) := by rw [w64_id (by omega) (by omega)]; omega
theorem sowner_l (t : Int) (ht : 0 ≤ t ∧ t < 18446744073709551616) : ∀ (d k : Nat) (s : Int) (l : List Int) (n : Nat), U64 l → n + d = l.length → d < k → 0 ≤ s → s + (l.drop n).sum < 9223372036854775808 → l.length < 9223372036854775807 →
    s ≤ t → scan_Owner.l0 k t s l (l.length : Int) (n : Int) = some (ownr (l.drop n) n (t - s)) := by
  intro d
  induction d with
  | zero =>
    intro k s l n hl hn hk h0 h1 hm hs
    obtain ⟨k, rfl⟩ : ∃ m, k = m + 1 := ⟨k - 1, by omega⟩
    simp only [scan_Owner.l0]
    rw [if_neg (by omega), List.drop_eq_nil_of_le (by omega)]
    rfl
  | succ d ih =>
    intro k s l n hl hn hk h0 h1 hm hs
    obtain ⟨k, rfl⟩ : ∃ m, k = m + 1 := ⟨k - 1, by omega⟩
    simp only [scan_Owner.l0]
    have hr := hl.rd (n : Int)
    have hs' := sum_nonneg (hl.drop (n + 1))
    rw [sum_drop_step (by omega)] at h1
    rw [if_pos (by omega), if_pos (by omega), if_pos (by omega), u64w_id (by omega) (by omega), drop_step (by omega)]
    simp only [ownr]
    by_cases c : t < s + rd l (n : Int)
    · rw [if_pos c, if_pos (by omega)]
    · rw [if_neg c, if_neg (by omega), step_cast (m := l.length) (by omega) hm]
      rw [ih k _ l (n + 1) hl (by omega) (by omega) (by omega) (by omega) hm (by omega)]
      rw [show t - (s + rd l (n : Int)) = t - s - rd l (n : Int) by omega]
      rfl
theorem sowner_ok (k : Nat) (t : Int) (ht : 0 ≤ t ∧ t < 18446744073709551616) (l : List Int) (hl : U64 l) (hk : l.length < k) (hm : l.length < 9223372036854775807) :
    scan_Owner.f k t l = some (if l.sum < 9223372036854775808 then ownr l 0 t else (0, 11)) := by
  unfold scan_Owner.f
  rw [stotal_ok k l hl hk hm]
  simp only [Option.bind_some]
  by_cases c : l.sum < 9223372036854775808
  · simp only [c, if_true]
    have h := sowner_l t ht l.length k 0 l 0 hl (by omega) hk (by omega) (by simpa using c) hm ht.1
    simpa using h
  · simp [c]
theorem pos_l : ∀ (d k : Nat) (s : Int) (l : List Int) (n : Nat), n + d = l.length → d < k → 0 ≤ s → s ≤ n → l.length < 9223372036854775807 →
    scan_Positive.l0 k s l (l.length : Int) (n : Int) = some (s + pos (l.drop n)) := by
  intro d
  induction d with
  | zero =>
    intro k s l n hn hk h0 h1 hm
    obtain ⟨k, rfl⟩ : ∃ m, k = m + 1 := ⟨k - 1, by omega⟩
    simp only [scan_Positive.l0]
    rw [if_neg (by omega), List.drop_eq_nil_of_le (by omega)]
    simp [pos]
  | succ d ih =>
    intro k s l n hn hk h0 h1 hm
    obtain ⟨k, rfl⟩ : ∃ m, k = m + 1 := ⟨k - 1, by omega⟩
    simp only [scan_Positive.l0]
    rw [if_pos (by omega), if_pos (by omega), if_pos (by omega), drop_step (by omega)]
    simp only [pos]
    by_cases c : rd l (n : Int) > 0
    · rw [if_pos c, if_pos c, step_cast (m := l.length) (by omega) hm, w64_id (by omega) (by omega), ih k _ l (n + 1) (by omega) (by omega) (by omega) (by omega) hm]
      congr 1; omega
    · rw [if_neg c, if_neg c, step_cast (m := l.length) (by omega) hm, ih k _ l (n + 1) (by omega) (by omega) (by omega) (by omega) hm]
      congr 1; omega
theorem positive_ok (k : Nat) (l : List Int) (hk : l.length < k) (hm : l.length < 9223372036854775807) : scan_Positive.f k l = some (pos l) := by
  unfold scan_Positive.f
  have h := pos_l l.length k 0 l 0 (by omega) hk (by omega) (by omega) hm
  simpa using h
theorem without_ok (i : Int) (l : List Int) (h : l.length < 17592186044416) :
    scan_Without.f i l = some (if 0 ≤ i ∧ i < l.length then (l.set i.toNat 0, 0) else ([], 3)) := by
  unfold scan_Without.f
  by_cases c : i < 0
  · rw [if_pos c, if_neg (by omega)]
  · rw [if_neg c]
    by_cases d : i ≥ (l.length : Int)
    · rw [if_pos d, if_neg (by omega)]
    · rw [if_neg d, if_pos (by omega), clone_ok l h]
      simp only [Option.bind_some]
      rw [if_pos (by omega), if_pos (by omega)]
/-- The owner lies in the list, and its ticket between the sums; or there is none. -/
theorem ownr_spec : ∀ (l : List Int) (i t : Int), 0 ≤ t → U64 l →
    (∃ n : Nat, n < l.length ∧ ownr l i t = (i + n, 0) ∧ (l.take n).sum ≤ t ∧ t < (l.take (n + 1)).sum ∧ 0 < rd l n) ∨ (ownr l i t = (0, 3) ∧ l.sum ≤ t) := by
  intro l
  induction l with
  | nil => intro i t h0 _; right; exact ⟨rfl, by simpa using h0⟩
  | cons x l ih =>
    intro i t h0 hu
    have hx := hu x (by simp)
    have hl : U64 l := fun y hy => hu y (by simp [hy])
    simp only [ownr]
    by_cases c : t < x
    · left
      refine ⟨0, by simp, by rw [if_pos c]; simp, by simpa using h0, by simpa using c, ?_⟩
      simp [rd]; omega
    · rw [if_neg c]
      rcases ih (i + 1) (t - x) (by omega) hl with ⟨n, h1, h2, h3, h4, h5⟩ | ⟨h1, h2⟩
      · left
        refine ⟨n + 1, by simp; omega, by rw [h2]; simp; omega, by simp; omega, ?_, ?_⟩
        · rw [List.take_succ_cons, List.sum_cons]; omega
        · rw [rd_nat] at h5 ⊢; simpa using h5
      · right
        exact ⟨h1, by simp; omega⟩
end Go.Proofs.Ytngacagfmpndmaa.Lm
