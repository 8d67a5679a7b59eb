/- The owner of a ticket in a list is that in its tree; the statement over lists alone. No conditions. -/
import Derived.Test.YtngacagfmpndmaaPFx14
import Derived.Test.YtngacagfmpndmaaLmFen
namespace Go.Proofs.Ytngacagfmpndmaa.Pure
open Go.RowKit Go.Proofs.Ytngacagfmpndmaa.PF Go.Proofs.YtngacagfmpndmaaW.PrintWords Go.Proofs.YtngacagfmpndmaaW.PrintLast Go.Proofs.Ytngacagfmpndmaa.Lm
theorem alive12 (k : Nat) (hk : 20 ≤ k) : drawlotlaw12_alive.f k = some true := at_rounds (g := fun k => drawlotlaw12_alive.f k) (fun k => drawlotlaw12_alive.mono k) (k := 20) (k' := k) hk (r := true) (by decide +kernel)
theorem ScanTrees : drawlotlaw12_ScanTrees.Pure := by
  intro t l ht hm hs hw
  have hu := U64.of_wf hw
  have ht := wf64 ht
  refine ⟨l.length + 220, ?_⟩
  unfold drawlotlaw12_ScanTrees.f
  rw [alive12 _ (by omega), Option.bind_some, if_pos rfl]
  by_cases h : (l.length : Int) > 300
  · rw [if_pos h]
  · rw [if_neg h, build_ok _ l hu (by omega) (by omega), sowner_ok _ t ht l hu (by omega) (by omega), Option.bind_some, Option.bind_some]
    by_cases c : l.sum < 9223372036854775808
    · simp only [c, if_true]
      rw [owner_ok hu c (by omega) _ (by omega) (by omega) t ht.1]
      simp
    · simp [c]
end Go.Proofs.Ytngacagfmpndmaa.Pure
