/- The tree of any stakes is the reference's, or refused, and has just these; the statement over lists alone. No conditions. -/
import Derived.Test.YtngacagfmpndmaaPFx15
import Derived.Test.YtngacagfmpndmaaLmFenR
namespace Go.Proofs.Ytngacagfmpndmaa.Pure
open Go.RowKit Go.Proofs.Ytngacagfmpndmaa.PF Go.Proofs.YtngacagfmpndmaaW.PrintWords Go.Proofs.YtngacagfmpndmaaW.PrintLast Go.Proofs.Ytngacagfmpndmaa.Lm
theorem alive11 (k : Nat) (hk : 80 ≤ k) : drawlotlaw11_alive.f k = some true := at_rounds (g := fun k => drawlotlaw11_alive.f k) (fun k => drawlotlaw11_alive.mono k) (k := 80) (k' := k) hk (r := true) (by decide +kernel)
theorem FenBuilds : drawlotlaw11_FenBuilds.Pure := by
  intro l hm hs hw
  have hu := U64.of_wf hw
  refine ⟨2 * l.length + 280, ?_⟩
  unfold drawlotlaw11_FenBuilds.f
  rw [alive11 _ (by omega), bs, if_pos rfl]
  by_cases h : (l.length : Int) > 300
  · rw [if_pos h]
  · rw [if_neg h, bs, List.length_nil, Nat.zero_add, List.nil_append, if_pos (by omega), bs, build_ok _ l hu (by omega) (by omega), rbuild_ok _ l hu (by omega) (by omega), bs, bs, rtotal_ok _ l hu (by omega) (by omega)]
    have hlen : ((if l.sum < 9223372036854775808 then (tre l, (0 : Int)) else ([], 11)).1).length ≤ l.length := by split <;> simp [tre_length]
    rw [r11same_ok _ _ _ (by omega) (by omega), bs, decide_eq_true rfl, if_pos rfl, if_pos rfl, same_ok _ l l (by omega) (by omega), bs, decide_eq_true rfl, if_pos rfl, bs]
    by_cases c : l.sum < 9223372036854775808
    · rw [if_pos c, if_pos c, if_pos rfl, ftotal_ok hu c (by omega) _ (by omega), bs, if_pos rfl, flen_ok, bs, tre_length, if_pos rfl, stakes_ok _ l hu c (by omega) (by omega), bs, same_ok _ l l (by omega) (by omega), bs, decide_eq_true rfl]
    · rw [if_neg c, if_neg (by decide)]
end Go.Proofs.Ytngacagfmpndmaa.Pure
