/- What any withdrawal, and any slash, makes of any validators is the reference's; the statement over lists alone. No conditions. -/
import Derived.Test.YtoaeedepfmfkkaaPBx11
import Derived.Test.YtoaeedepfmfkkaaLmBookS
namespace Go.Proofs.Ytoaeedepfmfkkaa.Pure
open Go.RowKit Go.Proofs.Ytoaeedepfmfkkaa.PB Go.Proofs.YtoaeedepfmfkkaaW.PrintWords Go.Proofs.YtoaeedepfmfkkaaW.PrintLast Go.Proofs.Ytoaeedepfmfkkaa.Lm
theorem BookTakes : drawlotlaw22_BookTakes.Pure := by
  intro l who a hl _ ha
  have hL := VL.of hl.2
  have hA := wf64 ha
  clear hl ha
  refine ⟨20000, ?_⟩
  unfold drawlotlaw22_BookTakes.f
  rw [alive22 _ (by omega), bs, if_pos rfl]
  by_cases h : (l.length : Int) > 60
  · rw [if_pos h]
  have hq := sq_le (show l.length ≤ 60 by omega)
  rw [if_neg h, bs]
  simp only [List.length_nil, Nat.zero_add, List.nil_append]
  obtain ⟨h1, h2⟩ := hL.wd (who := who) hA
  obtain ⟨h3, h4⟩ := hL.sl (who := who) hA
  rw [if_pos (by omega), bs, withdraw_ok _ l hL (by omega) (by omega) who a hA, rwithdraw_ok _ l hL (by omega) (by omega) who a hA, bs, bs, slash_ok _ l hL (by omega) (by omega) who a hA, rslash_ok _ l hL (by omega) (by omega) who a hA, bs, bs,
    rsame_ok _ _ _ h1 h1 (by omega) (by omega), bs, if_pos (by simp), if_pos rfl, if_pos rfl, rsame_ok _ _ _ h3 h3 (by omega) (by omega), bs, if_pos (by simp), if_pos rfl, if_pos rfl, rsame_ok _ _ _ hL hL (by omega) (by omega), bs]
  simp
end Go.Proofs.Ytoaeedepfmfkkaa.Pure
