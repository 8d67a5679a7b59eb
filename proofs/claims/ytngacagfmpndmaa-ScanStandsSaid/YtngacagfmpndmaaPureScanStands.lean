/- The stakes ahead of an owner are no more than the ticket, with its own they are; the statement over lists alone. No conditions. -/
import Derived.Test.YtngacagfmpndmaaPFx13
import Derived.Test.YtngacagfmpndmaaLmScan
namespace Go.Proofs.Ytngacagfmpndmaa.Pure
open Go.RowKit Go.Proofs.Ytngacagfmpndmaa.PF Go.Proofs.YtngacagfmpndmaaW.PrintWords Go.Proofs.YtngacagfmpndmaaW.PrintLast Go.Proofs.Ytngacagfmpndmaa.Lm
theorem alive12 (k : Nat) (hk : 20 ≤ k) : drawlotlaw12_alive.f k = some true := at_rounds (g := fun k => drawlotlaw12_alive.f k) (fun k => drawlotlaw12_alive.mono k) (k := 20) (k' := k) hk (r := true) (by decide +kernel)
theorem pos_set {l : List Int} {n : Nat} (h : n < l.length) (hp : 0 < rd l (n : Int)) : pos (l.set n 0) = pos l - 1 := by
  have e1 : l.set n 0 = l.take n ++ 0 :: l.drop (n + 1) := List.set_eq_take_append_cons_drop.trans (if_pos h)
  have e2 : l = l.take n ++ rd l (n : Int) :: l.drop (n + 1) := by rw [← drop_step h, List.take_append_drop]
  conv => rhs; rw [e2]
  rw [e1, pos_append, pos_append]
  simp only [pos]
  rw [if_neg (by omega), if_pos (by omega)]
  omega
theorem ScanStands : drawlotlaw12_ScanStands.Pure := by
  intro t l ht hm hs hw
  have hu := U64.of_wf hw
  have ht := wf64 ht
  refine ⟨l.length + 20, ?_⟩
  unfold drawlotlaw12_ScanStands.f
  rw [alive12 _ (by omega), Option.bind_some, if_pos rfl]
  by_cases h : (l.length : Int) > 300
  · rw [if_pos h]
  · rw [if_neg h, sowner_ok _ t ht l hu (by omega) (by omega), Option.bind_some]
    by_cases c : l.sum < 9223372036854775808
    · rw [if_pos c]
      rcases ownr_spec l 0 t ht.1 hu with ⟨n, h1, h2, h3, h4, h5⟩ | ⟨h1, h2⟩
      · rw [h2]
        simp only [Int.zero_add, if_true, Int.toNat_natCast]
        have s1 := sum_take_drop l n
        have s2 := sum_take_drop l (n + 1)
        have q1 := sum_nonneg (hu.drop n)
        have q2 := sum_nonneg (hu.drop (n + 1))
        have e1 : scan_Total.f (l.length + 20) (l.take n) = some ((l.take n).sum, 0) := by rw [stotal_ok _ _ (hu.take n) (by simp; omega) (by simp; omega), if_pos (by omega)]
        have e2 : scan_Total.f (l.length + 20) (l.take (n + 1)) = some ((l.take (n + 1)).sum, 0) := by rw [stotal_ok _ _ (hu.take (n + 1)) (by simp; omega) (by simp; omega), if_pos (by omega)]
        have e3 : scan_Without.f (n : Int) l = some (l.set n 0, 0) := by rw [without_ok _ _ (by omega), if_pos (by omega), Int.toNat_natCast]
        rw [step_cast (m := l.length) h1 (by omega), Int.toNat_natCast, e1, e2, e3]
        have hp := pos_range l
        simp only [Option.bind_some, if_true]
        rw [if_neg (by omega), if_neg (by omega), if_pos (by omega), if_pos (by omega), if_pos (by omega), if_pos (by omega), if_pos h3, if_pos h4, positive_ok _ (l.set n 0) (by rw [List.length_set]; omega) (by rw [List.length_set]; omega), positive_ok _ _ (by omega) (by omega), Option.bind_some, Option.bind_some, pos_set h1 h5,
          w64_id (by omega) (by omega), beq_self_eq_true]
      · rw [h1]
        simp
    · rw [if_neg c]
      simp
end Go.Proofs.Ytngacagfmpndmaa.Pure
