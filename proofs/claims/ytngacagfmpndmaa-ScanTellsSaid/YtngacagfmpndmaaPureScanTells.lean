/- What any stakes tell of any ticket, and any place, is the reference's; the statement over lists alone. No conditions. -/
import Derived.Test.YtngacagfmpndmaaPFx12
import Derived.Test.YtngacagfmpndmaaLmScanR
namespace Go.Proofs.Ytngacagfmpndmaa.Pure
open Go.RowKit Go.Proofs.Ytngacagfmpndmaa.PF Go.Proofs.YtngacagfmpndmaaW.PrintWords Go.Proofs.YtngacagfmpndmaaW.PrintLast Go.Proofs.Ytngacagfmpndmaa.Lm
theorem alive12 (k : Nat) (hk : 20 ≤ k) : drawlotlaw12_alive.f k = some true := at_rounds (g := fun k => drawlotlaw12_alive.f k) (fun k => drawlotlaw12_alive.mono k) (k := 20) (k' := k) hk (r := true) (by decide +kernel)
theorem ScanTells : drawlotlaw12_ScanTells.Pure := by
  intro t i l ht hi hm hs hw
  have hu := U64.of_wf hw
  have ht := wf64 ht
  refine ⟨l.length + 20, ?_⟩
  unfold drawlotlaw12_ScanTells.f
  rw [alive12 _ (by omega), Option.bind_some, if_pos rfl]
  by_cases h : (l.length : Int) > 300
  · rw [if_pos h]
  · rw [if_neg h]
    simp only [Option.bind_some, List.length_nil, Nat.zero_add, List.nil_append]
    rw [if_pos (by omega), sowner_ok _ t ht l hu (by omega) (by omega), r12owner_ok _ t ht l hu (by omega) (by omega), stotal_ok _ l hu (by omega) (by omega), r12total_ok _ l hu (by omega) (by omega), without_ok i l (by omega), r12without_ok i l (by omega),
      positive_ok _ l (by omega) (by omega), r12positive_ok _ l (by omega) (by omega), same_ok _ l l (by omega) (by omega)]
    simp only [Option.bind_some, if_true]
    rw [same_ok _ _ _ (by split <;> simp <;> omega) (by split <;> simp <;> omega)]
    simp
end Go.Proofs.Ytngacagfmpndmaa.Pure
