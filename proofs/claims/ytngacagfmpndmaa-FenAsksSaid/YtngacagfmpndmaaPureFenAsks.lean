/- What any tree tells of any place, and of any ticket, is the reference's, or refused; the statement over lists alone. No conditions. -/
import Derived.Test.YtngacagfmpndmaaPFx16
import Derived.Test.YtngacagfmpndmaaLmFenR
namespace Go.Proofs.Ytngacagfmpndmaa.Pure
open Go.RowKit Go.Proofs.Ytngacagfmpndmaa.PF Go.Proofs.YtngacagfmpndmaaW.PrintWords Go.Proofs.YtngacagfmpndmaaW.PrintLast Go.Proofs.Ytngacagfmpndmaa.Lm
theorem alive11 (k : Nat) (hk : 80 ≤ k) : drawlotlaw11_alive.f k = some true := at_rounds (g := fun k => drawlotlaw11_alive.f k) (fun k => drawlotlaw11_alive.mono k) (k := 80) (k' := k) hk (r := true) (by decide +kernel)
theorem FenAsks : drawlotlaw11_FenAsks.Pure := by
  intro l n t hm hs hw hn ht
  have hu := U64.of_wf hw
  have ht := wf64 ht
  refine ⟨2 * l.length + 280, ?_⟩
  unfold drawlotlaw11_FenAsks.f
  rw [alive11 _ (by omega), bs, if_pos rfl]
  by_cases h : (l.length : Int) > 300
  · rw [if_pos h]
  · rw [if_neg h, build_ok _ l hu (by omega) (by omega), bs]
    by_cases c : l.sum < 9223372036854775808
    · rw [if_pos c, if_pos rfl, fPrefix_ok hu c (by omega) _ (by omega) n, bs, at_ok hu c (by omega) _ (by omega) n, bs, owner_ok hu c (by omega) _ (by omega) (by omega) t ht.1, bs, r11owner_ok _ t ht l hu (by omega) (by omega), bs]
      have hT : ∀ m : Nat, m ≤ l.length → drawlotref09_Total.f (2 * l.length + 280) (l.take m) = some (P l m, true) := fun m hm => by
        have := P_le hu m
        rw [rtotal_ok _ _ (hu.take m) (by rw [List.length_take]; omega) (by rw [List.length_take]; omega), if_pos (by unfold P at this; omega)]
        rfl
      by_cases a : 0 ≤ n
      · obtain ⟨m, rfl⟩ := Int.eq_ofNat_of_zero_le a
        by_cases b : m ≤ l.length
        · rw [if_pos (show 0 ≤ (m : Int) ∧ (m : Int) ≤ l.length by omega), Int.toNat_natCast, hT m b]
          by_cases d : m < l.length
          · rw [if_pos (show 0 ≤ (m : Int) ∧ (m : Int) < l.length by omega)]
            simp [b, d]
          · rw [if_neg (show ¬ (0 ≤ (m : Int) ∧ (m : Int) < l.length) by omega)]
            simp [b, d]
        · rw [if_neg (show ¬ (0 ≤ (m : Int) ∧ (m : Int) ≤ l.length) by omega), if_neg (show ¬ (0 ≤ (m : Int) ∧ (m : Int) < l.length) by omega)]
          have d : ¬ m < l.length := by omega
          simp [b, d]
      · rw [if_neg (show ¬ (0 ≤ n ∧ n ≤ l.length) by omega), if_neg (show ¬ (0 ≤ n ∧ n < l.length) by omega)]
        simp [a]
    · rw [if_neg c]
      simp
end Go.Proofs.Ytngacagfmpndmaa.Pure
