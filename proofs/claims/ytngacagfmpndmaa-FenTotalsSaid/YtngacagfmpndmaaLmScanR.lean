/- What the functions of scan's reference answer, in plain Lean. No conditions. -/
import Derived.Test.YtngacagfmpndmaaPFx2
import Derived.Test.YtngacagfmpndmaaPFx3
import Derived.Test.YtngacagfmpndmaaLmScan
namespace Go.Proofs.Ytngacagfmpndmaa.Lm
open Go.RowKit Go.Proofs.YtngacagfmpndmaaW.PrintWords Go.Proofs.Ytngacagfmpndmaa.PF
theorem r12total_ok (k : Nat) (l : List Int) (hl : U64 l) (hk : l.length < k) (hm : l.length < 9223372036854775807) :
    drawlotref12_Total.f k l = some (if l.sum < 9223372036854775808 then (l.sum, 0) else (0, 11)) := by
  unfold drawlotref12_Total.f
  rw [rtotal_ok k l hl hk hm]
  simp only [Option.bind_some]
  split <;> simp
theorem r11owner_l : ∀ (d k : Nat) (t : Int) (l : List Int) (n : Nat), U64 l → n + d = l.length → d < k → 0 ≤ t → t < 18446744073709551616 → l.length < 9223372036854775807 →
    drawlotref11_Owner.l0 k l t (n : Int) = some (ownr (l.drop n) n t) := by
  intro d
  induction d with
  | zero =>
    intro k t l n hl hn hk h0 h1 hm
    obtain ⟨k, rfl⟩ : ∃ m, k = m + 1 := ⟨k - 1, by omega⟩
    simp only [drawlotref11_Owner.l0]
    rw [if_neg (by omega), List.drop_eq_nil_of_le (by omega)]
    rfl
  | succ d ih =>
    intro k t l n hl hn hk h0 h1 hm
    obtain ⟨k, rfl⟩ : ∃ m, k = m + 1 := ⟨k - 1, by omega⟩
    simp only [drawlotref11_Owner.l0]
    have hr := hl.rd (n : Int)
    rw [if_pos (by omega), if_pos (by omega), drop_step (by omega)]
    simp only [ownr]
    by_cases c : t < rd l (n : Int)
    · rw [if_pos c, if_pos c]
    · rw [if_neg c, if_neg c, step_cast (m := l.length) (by omega) hm, u64w_id (by omega) (by omega)]
      rw [ih k _ l (n + 1) hl (by omega) (by omega) (by omega) (by omega) hm]
      rfl
theorem r11owner_ok (k : Nat) (t : Int) (ht : 0 ≤ t ∧ t < 18446744073709551616) (l : List Int) (hl : U64 l) (hk : l.length < k) (hm : l.length < 9223372036854775807) :
    drawlotref11_Owner.f k l t = some (ownr l 0 t) := by
  unfold drawlotref11_Owner.f
  have h := r11owner_l l.length k t l 0 hl (by omega) hk ht.1 ht.2 hm
  simpa using h
theorem r12owner_ok (k : Nat) (t : Int) (ht : 0 ≤ t ∧ t < 18446744073709551616) (l : List Int) (hl : U64 l) (hk : l.length < k) (hm : l.length < 9223372036854775807) :
    drawlotref12_Owner.f k t l = some (if l.sum < 9223372036854775808 then ownr l 0 t else (0, 11)) := by
  unfold drawlotref12_Owner.f
  rw [r12total_ok k l hl hk hm]
  simp only [Option.bind_some]
  by_cases c : l.sum < 9223372036854775808
  · simp only [c, if_true, r11owner_ok k t ht l hl hk hm, Option.bind_some]
  · simp [c]
theorem r12pos_l : ∀ (d k : Nat) (s : Int) (l : List Int) (n : Nat), n + d = l.length → d < k → 0 ≤ s → s ≤ n → l.length < 9223372036854775807 →
    drawlotref12_Positive.l0 k l s (n : Int) = some (s + pos (l.drop n)) := by
  intro d
  induction d with
  | zero =>
    intro k s l n hn hk h0 h1 hm
    obtain ⟨k, rfl⟩ : ∃ m, k = m + 1 := ⟨k - 1, by omega⟩
    simp only [drawlotref12_Positive.l0]
    rw [if_neg (by omega), List.drop_eq_nil_of_le (by omega)]
    simp [pos]
  | succ d ih =>
    intro k s l n hn hk h0 h1 hm
    obtain ⟨k, rfl⟩ : ∃ m, k = m + 1 := ⟨k - 1, by omega⟩
    simp only [drawlotref12_Positive.l0]
    rw [if_pos (by omega), if_pos (by omega), drop_step (by omega)]
    simp only [pos]
    by_cases c : rd l (n : Int) > 0
    · rw [if_pos c, if_pos c, step_cast (m := l.length) (by omega) hm, w64_id (by omega) (by omega), ih k _ l (n + 1) (by omega) (by omega) (by omega) (by omega) hm]
      congr 1; omega
    · rw [if_neg c, if_neg c, step_cast (m := l.length) (by omega) hm, ih k _ l (n + 1) (by omega) (by omega) (by omega) (by omega) hm]
      congr 1; omega
theorem r12positive_ok (k : Nat) (l : List Int) (hk : l.length < k) (hm : l.length < 9223372036854775807) : drawlotref12_Positive.f k l = some (pos l) := by
  unfold drawlotref12_Positive.f
  have h := r12pos_l l.length k 0 l 0 (by omega) hk (by omega) (by omega) hm
  simpa using h
theorem r12without_ok (i : Int) (l : List Int) (h : l.length < 17592186044416) :
    drawlotref12_Without.f i l = some (if 0 ≤ i ∧ i < l.length then (l.set i.toNat 0, 0) else ([], 3)) := by
  unfold drawlotref12_Without.f
  by_cases c : i < 0
  · rw [if_pos c, if_neg (by omega)]
  · rw [if_neg c]
    by_cases d : i ≥ (l.length : Int)
    · rw [if_pos d, if_neg (by omega)]
    · rw [if_neg d, if_pos (by omega)]
      simp only [Option.bind_some, List.length_nil, Nat.zero_add, List.nil_append]
      rw [if_pos h, if_pos (by omega), if_pos (by omega)]
end Go.Proofs.Ytngacagfmpndmaa.Lm
