/- What any validators tell is the reference's; the statement over lists alone. No conditions. -/
import Derived.Test.YtoaeedepfmfkkaaPBx12
import Derived.Test.YtoaeedepfmfkkaaLmBookS
namespace Go.Proofs.Ytoaeedepfmfkkaa.Pure
open Go.RowKit Go.Proofs.Ytoaeedepfmfkkaa.PB Go.Proofs.YtoaeedepfmfkkaaW.PrintWords Go.Proofs.YtoaeedepfmfkkaaW.PrintLast Go.Proofs.Ytoaeedepfmfkkaa.Lm
theorem BookTells : drawlotlaw22_BookTells.Pure := by
  intro l m key hl hm hkey
  have hL := VL.of hl.2
  have hM := VL.of hm.2
  have hk := hkey.1
  clear hl hm hkey
  refine ⟨20000, ?_⟩
  unfold drawlotlaw22_BookTells.f
  rw [alive22 _ (by omega), bs, if_pos rfl]
  by_cases h : (l.length : Int) > 60
  · rw [if_pos h]
  rw [if_neg h]
  by_cases h' : (m.length : Int) > 60
  · rw [if_pos h']
  have hq := sq_le (show l.length ≤ 60 by omega)
  have ha : (actv l).length = l.length := by simp [actv]
  have hs : (stk l).length = l.length := by simp [stk]
  rw [if_neg h', find_ok _ key hk l hL (by omega) (by omega), rfind_ok _ key hk l hL (by omega) (by omega), bs, bs, if_pos rfl, if_pos (by simp), right_ok _ l hL (by omega) (by omega), rright_ok _ l hL (by omega) (by omega), bs, bs, if_pos (by simp),
    activate_ok _ l (by omega) (by omega), ractivate_ok _ l (by omega) (by omega), bs, bs, rsame_ok _ _ _ hL.actv hL.actv (by omega) (by omega), bs, if_pos (by simp), stakes_ok _ l (by omega) (by omega), rstakes_ok _ l (by omega) (by omega), bs, bs,
    same_ok _ _ _ (by omega) (by omega), bs, if_pos (by simp), bsame_ok _ l m hL hM (by omega) (by omega), rsame_ok _ l m hL hM (by omega) (by omega), bs, bs]
  simp
end Go.Proofs.Ytoaeedepfmfkkaa.Pure
