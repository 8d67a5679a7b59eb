/- What is deposited, and withdrawn, leaves all others, and the one, as they were; the statement over lists alone. No conditions. -/
import Derived.Test.YtoaeedepfmfkkaaPBx14
import Derived.Test.YtoaeedepfmfkkaaLmBookT
namespace Go.Proofs.Ytoaeedepfmfkkaa.Pure
open Go.RowKit Go.Proofs.Ytoaeedepfmfkkaa.PB Go.Proofs.YtoaeedepfmfkkaaW.PrintWords Go.Proofs.YtoaeedepfmfkkaaW.PrintLast Go.Proofs.Ytoaeedepfmfkkaa.Lm
theorem BookBack : drawlotlaw22_BookBack.Pure := by
  intro l key a hl hkey ha
  have hL := VL.of hl.2
  have hk := hkey.1
  have hA := wf64 ha
  clear hl hkey ha
  refine ⟨20000, ?_⟩
  unfold drawlotlaw22_BookBack.f
  rw [alive22 _ (by omega), bs, if_pos rfl]
  by_cases h : (l.length : Int) > 60
  · rw [if_pos h]
  rw [if_neg h, deposit_ok _ l hL (by omega) (by omega) key hk a 100 hA, bs]
  obtain ⟨h1, h2⟩ := hL.dep (key := key) (a := a) (most := 100) hk hA
  rcases dep_cases l key a 100 with ⟨e, he, hd⟩ | ⟨hR, ha0, _, hb, ⟨i, hi, hd⟩ | ⟨hi, hlt, hd⟩⟩
  · rw [hd]
    simp [he]
  · have hr := idx_range key l 0 i hi
    obtain ⟨n, rfl⟩ := Int.eq_ofNat_of_zero_le hr.1
    have hn : n < l.length := by omega
    have hf := nxt_le hL (i := (n : Int)) (by omega) (by omega)
    have hf0 := (rd27_VW hL hn).2.2
    rw [hd] at h1 h2 ⊢
    have hm := hR.put2 hn (v := (rd_T27 l (n : Int)).f2 + a) (by omega)
    have hw : wd (put2 l (n : Int) ((rd_T27 l (n : Int)).f2 + a)) (n : Int) a = (l, (rd_T27 l (n : Int)).f2, 0) := by
      unfold wd
      rw [if_pos ⟨hm, ha0⟩, if_pos (by rw [put2_len]; omega), put2_rd l n hn, if_neg (by simp only; omega)]
      simp only
      rw [show (rd_T27 l (n : Int)).f2 + a - a = (rd_T27 l (n : Int)).f2 by omega, put2_put2 l n hn, put2_self l n hn]
    simp only at h1 h2 ⊢
    rw [put2_len] at h2
    rw [if_pos trivial, withdraw_ok _ _ h1 (by rw [put2_len]; omega) (by rw [put2_len]; omega) _ a hA, hw, bs]
    simp only [put2_len]
    rw [if_pos trivial, if_neg (by omega), if_neg (by omega), if_pos trivial, if_pos (by omega), if_pos (by omega), if_pos trivial, if_pos trivial, rsame_ok _ _ _ hL hL (by omega) (by omega), bs]
    simp
  · rw [hd] at h1 h2 ⊢
    have hm := hR.snoc hi hb
    have er : rd_T27 (l ++ [⟨key, 0, a⟩]) (l.length : Int) = ⟨key, 0, a⟩ := by rw [rd27_nat _ _ (by simp)]; simp
    have hw : wd (l ++ [⟨key, 0, a⟩]) (l.length : Int) a = (l ++ [⟨key, 0, 0⟩], 0, 0) := by
      unfold wd
      rw [if_pos ⟨hm, ha0⟩, if_pos (by simp; omega), er, if_neg (by simp only; omega)]
      simp only
      rw [show a - a = 0 by omega]
      unfold put2
      rw [er]
      simp
    have er2 : rd_T27 (l ++ [⟨key, 0, 0⟩]) (l.length : Int) = ⟨key, 0, 0⟩ := by rw [rd27_nat _ _ (by simp)]; simp
    simp only at h1 h2 ⊢
    rw [if_pos trivial, withdraw_ok _ _ h1 (by simp; omega) (by simp; omega) _ a hA, hw, bs]
    simp only [List.length_append, List.length_cons, List.length_nil]
    rw [if_pos trivial, if_neg (by omega), if_neg (by omega), if_pos trivial, if_pos (by omega), if_pos (by omega), er2, if_pos rfl, if_neg (by omega), w64_id (by omega) (by omega), if_pos (by omega), if_pos trivial, if_pos trivial, if_pos (by omega), if_pos (by omega)]
    rw [show ((l.length : Int) : Int).toNat = l.length by omega, List.take_left, rsame_ok _ _ _ hL hL (by omega) (by omega), bs]
    simp
end Go.Proofs.Ytoaeedepfmfkkaa.Pure
