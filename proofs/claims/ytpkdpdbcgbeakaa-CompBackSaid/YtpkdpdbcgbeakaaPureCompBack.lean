/- A round comes back, either way; the statement over numbers and lists alone. No conditions. -/
import Derived.Test.YtpkdpdbcgbeakaaPCx13
import Derived.Test.YtpkdpdbcgbeakaaLmComp
namespace Go.Proofs.Ytpkdpdbcgbeakaa.Pure
open Go.RowKit Go.Proofs.Ytpkdpdbcgbeakaa.PC Go.Proofs.YtpkdpdbcgbeakaaW.PrintWords Go.Proofs.YtpkdpdbcgbeakaaW.PrintLast Go.Proofs.Ytpkdpdbcgbeakaa.Lm
theorem below8 {j : Int} (h0 : 0 ≤ j) (h1 : j < (8 : Nat)) : j = 0 ∨ j = 1 ∨ j = 2 ∨ j = 3 ∨ j = 4 ∨ j = 5 ∨ j = 6 ∨ j = 7 := by omega
theorem there {s : List Int} (hs : InR 8 4294967296 s) {w k : Int} : Ar.eqb 8 (bck (rnd s w k) w k) s = true := by
  obtain ⟨r0, r1, r2, r3, r4, r5, r6, r7⟩ := rnd_get s w k
  obtain ⟨b0, b1, b2, b3, b4, b5, b6, b7⟩ := bck_get (rnd s w k) w k
  have eo : off (rnd s w k) = tee s w k := by
    unfold off
    rw [r0, r1, r2, r3]
    have : 0 ≤ tee s w k ∧ tee s w k < 4294967296 := by unfold tee; omega
    omega
  refine eqb_of fun j h0 h1 => ?_
  rcases below8 h0 h1 with rfl | rfl | rfl | rfl | rfl | rfl | rfl | rfl
  · rw [b0, r1]
  · rw [b1, r2]
  · rw [b2, r3]
  · rw [b3, r4, eo]
    have := hs 3
    omega
  · rw [b4, r5]
  · rw [b5, r6]
  · rw [b6, r7]
  · rw [b7, eo, r5, r6, r7]
    unfold tee
    have := hs 7
    omega
theorem back {s : List Int} (hs : InR 8 4294967296 s) {w k : Int} : Ar.eqb 8 (rnd (bck s w k) w k) s = true := by
  obtain ⟨r0, r1, r2, r3, r4, r5, r6, r7⟩ := rnd_get (bck s w k) w k
  obtain ⟨b0, b1, b2, b3, b4, b5, b6, b7⟩ := bck_get s w k
  have et : tee (bck s w k) w k = off s := by
    unfold tee
    rw [b7, b4, b5, b6]
    have : 0 ≤ off s ∧ off s < 4294967296 := by unfold off; omega
    omega
  refine eqb_of fun j h0 h1 => ?_
  rcases below8 h0 h1 with rfl | rfl | rfl | rfl | rfl | rfl | rfl | rfl
  · rw [r0, et, b0, b1, b2]
    unfold off
    have := hs 0
    omega
  · rw [r1, b0]
  · rw [r2, b1]
  · rw [r3, b2]
  · rw [r4, b3, et]
    have := hs 4
    omega
  · rw [r5, b4]
  · rw [r6, b5]
  · rw [r7, b6]
theorem CompBack : drawlotlaw04_CompBack.Pure := by
  intro s w k hs hw hk
  have hs' : InR 8 4294967296 s := InR.of_mem (by decide) hs.1 (fun x hx => wf32 (hs.2 x hx))
  refine ⟨200, ?_⟩
  unfold drawlotlaw04_CompBack.f
  rw [alive04 _ (by omega), bs, if_pos rfl, Round_ok hs', bs, Back_ok4 (rnd_in hs' _ _), bs, if_pos (there hs'), Back_ok4 hs', bs, Round_ok (bck_in hs' _ _), bs, back hs']
end Go.Proofs.Ytpkdpdbcgbeakaa.Pure
