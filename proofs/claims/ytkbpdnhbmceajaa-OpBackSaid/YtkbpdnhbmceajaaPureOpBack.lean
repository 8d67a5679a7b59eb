/- Operations that are right come back of their bytes, bytes of their operations; the statement over lists alone. No conditions. -/
import Derived.Test.YtkbpdnhbmceajaaPQx13
import Derived.Test.YtkbpdnhbmceajaaLmOpH
namespace Go.Proofs.Ytkbpdnhbmceajaa.Pure
open Go.RowKit Go.Proofs.Ytkbpdnhbmceajaa.PQ Go.Proofs.YtkbpdnhbmceajaaW.PrintWords Go.Proofs.YtkbpdnhbmceajaaW.PrintLast Go.Proofs.Ytkbpdnhbmceajaa.Lm
set_option linter.unusedVariables false
set_option linter.unusedSimpArgs false
theorem rd39_at {l : List S39} {i : Nat} (h : i < l.length) : rd_T39 l (i : Int) = l[i] := by
  unfold rd_T39
  rw [Int.toNat_natCast, List.getD_eq_getElem?_getD, List.getElem?_eq_getElem h]
  rfl
/-- All but the last are right: the rounds up to the end. -/
theorem back_loop (b : List Int) (m : List S39) (hm : m.length ≤ 3000) (hr : ∀ i, i + 1 < m.length → WF (rd_T39 m (i : Int)) ∧ rt (rd_T39 m (i : Int)) = true)
    (he : ∀ k, 10000 ≤ k → drawlotlaw24_OpBack.l0 k b m ((m.length - 1 : Nat) : Int) = some true) : ∀ (d i k : Nat), i + d + 1 = m.length → d + 10000 ≤ k → drawlotlaw24_OpBack.l0 k b m (i : Int) = some true := by
  intro d
  induction d with
  | zero =>
    intro i k hi hk
    rw [show i = m.length - 1 by omega]
    exact he k (by omega)
  | succ d ih =>
    intro i k hi hk
    obtain ⟨k, rfl⟩ : ∃ m, k = m + 1 := ⟨k - 1, by omega⟩
    obtain ⟨hw, ht⟩ := hr i (by omega)
    rw [drawlotlaw24_OpBack.l0, w64_id (by omega) (by omega), if_pos (by omega), if_pos (by omega), if_pos (by omega), rright_eq _ hw k (by omega), bs, if_pos ht]
    exact ih (i + 1) k (by omega) (by omega)
theorem back_ok (b : List Int) (hb : BY b) (hn : b.length ≤ 3000) (k : Nat) (hk : 20000 ≤ k) : ((op_Decode.f k b).bind fun t => drawlotlaw24_OpBack.l0 k b t 0) = some true := by
  obtain ⟨D, h1, h2, hw, h3⟩ := dec_struct 3000 b hn hb
  have hd : op_Decode.f k b = some D := by
    unfold op_Decode.f
    rw [h1 k [] (by omega) (by simp; omega), List.nil_append]
  rw [hd, bs]
  have e1 : ∀ x, wrap64 (((D.length - 1 : Nat) : Int) + 1) = x → (D.length = 0 ∧ x = 1) ∨ (D.length ≠ 0 ∧ x = D.length) := fun x hx => by
    rw [w64_id (by omega) (by omega)] at hx
    omega
  by_cases h0 : D.length = 0
  · obtain rfl := List.eq_nil_of_length_eq_zero h0
    have hbn : b = [] := by
      rcases h3 with ⟨_, h⟩ | ⟨D', c, T, h, _⟩
      · exact h
      · simp at h
    subst hbn
    obtain ⟨k, rfl⟩ : ∃ m, k = m + 1 := ⟨k - 1, by omega⟩
    rw [drawlotlaw24_OpBack.l0, if_neg (by rw [w64_id (by omega) (by omega)]; simp), if_pos (by simp)]
    rfl
  have hlast : ∀ i, i < D.length → WF (rd_T39 D (i : Int)) := fun i hi => hw _ (rd39_mem hi)
  have hwl : wrap64 ((D.length : Int) - 1) = ((D.length - 1 : Nat) : Int) := by rw [w64_id (by omega) (by omega)]; omega
  have hend : ∀ k, 10000 ≤ k → drawlotlaw24_OpBack.l0 k b D ((D.length - 1 : Nat) : Int) = some true := by
    intro k hk
    obtain ⟨k, rfl⟩ : ∃ m, k = m + 1 := ⟨k - 1, by omega⟩
    rw [drawlotlaw24_OpBack.l0, if_neg (by rw [w64_id (by omega) (by omega)]; omega), if_neg (by omega), hwl, if_pos (by omega), if_pos (by omega), rright_eq _ (hlast _ (by omega)) k (by omega), bs]
    rcases h3 with ⟨hr, hbe⟩ | ⟨D', c, T, hD, hr, hbe, hc, hc0, hc1⟩
    · have hE : op_Encode.f k D = some (bys D, 0) := by
        unfold op_Encode.f
        rw [show (0 : Int) = ((0 : Nat) : Int) from rfl, enc_all D hw (by omega) D.length 0 (by omega) k [] (by omega) (by simp; omega)]
        rw [List.drop_zero, encF_ok D [] hr, List.nil_append]
        rfl
      rw [if_pos (hr _ (rd39_mem (by omega))), hE, bs, if_pos rfl, ← hbe]
      simp
    · have hDl : D.length = D'.length + 1 := by rw [hD]; simp
      have hx : rd_T39 D ((D.length - 1 : Nat) : Int) = opN 0 c := by
        rw [rd39_at (by omega)]
        simp [hD]
      have hT : D.take ((D.length - 1 : Nat) : Int).toNat = D' := by
        rw [Int.toNat_natCast, hDl, hD]
        simp
      have hE : op_Encode.f k D' = some (bys D', 0) := by
        unfold op_Encode.f
        rw [show (0 : Int) = ((0 : Nat) : Int) from rfl, enc_all D' (fun x hx => hw x (by rw [hD]; exact List.mem_append_left _ hx)) (by omega) D'.length 0 (by omega) k [] (by omega) (by simp; omega)]
        rw [List.drop_zero, encF_ok D' [] hr, List.nil_append]
        rfl
      have hlb : b.length = (bys D').length + T.length + 1 := by rw [hbe]; simp; omega
      rw [hx, if_neg (by rw [rt_bad c hc]; simp), if_pos (by omega), hT, hE, bs, if_pos rfl, if_pos (by simp only; omega), if_pos (by omega), if_pos (by simp only; omega)]
      have htk : b.take ((bys D').length : Int).toNat = bys D' := by
        rw [Int.toNat_natCast, hbe]
        simp
      have hrd : rd b ((bys D').length : Int) = c := by
        rw [rd_nat, hbe]
        simp
      simp only
      rw [htk, if_pos rfl, hrd, w64_id (by omega) (by omega)]
      exact congrArg some (eqS_refl (opN 0 c))
  refine back_loop b D (by omega) (fun i hi => ⟨hlast i (by omega), ?_⟩) hend (D.length - 1) 0 k (by omega) (by omega)
  rcases h3 with ⟨hr, _⟩ | ⟨D', c, T, hD, hr, _⟩
  · exact hr _ (rd39_mem (by omega))
  · have hDl : D.length = D'.length + 1 := by rw [hD]; simp
    have e : rd_T39 D (i : Int) = rd_T39 D' (i : Int) := by
      rw [rd39_at (by omega), rd39_at (by omega)]
      simp only [hD]
      rw [List.getElem_append_left (by omega)]
    rw [e]
    exact hr _ (rd39_mem (by omega))
theorem OpBack : drawlotlaw24_OpBack.Pure := by
  intro l b hl _ _ hb
  have hL : ∀ x ∈ l, WO x := fun x hx => WO.of (hl.2 x hx)
  have hB := BY.of_wf hb
  clear hl hb
  refine ⟨40002, ?_⟩
  have j0t : drawlotlaw24_OpBack.j0 40002 l b true = some true := by rw [drawlotlaw24_OpBack.j0, if_pos rfl]
  unfold drawlotlaw24_OpBack.f
  rw [alive24 _ (by omega), bs, if_pos rfl]
  by_cases h1 : (l.length : Int) > 300
  · rw [if_pos h1, j0t]
  rw [if_neg h1]
  by_cases h2 : (b.length : Int) > 3000
  · rw [decide_eq_true h2, j0t]
  rw [decide_eq_false h2, drawlotlaw24_OpBack.j0, if_neg (by simp)]
  have hj : drawlotlaw24_OpBack.j1 40001 b false = some true := by
    rw [drawlotlaw24_OpBack.j1, if_neg (by simp)]
    exact back_ok b hB (by omega) _ (by omega)
  rcases enc_ok l hL (by omega) with ⟨a, D, hS, hE⟩ | hE
  · have hs := seg_len l a D hS
    have h4 : op_Decode.f 40001 a = some D := by
      unfold op_Decode.f
      have := dec_seg l a D hS [] (40001 - l.length) [] (by omega) (by simp; omega)
      rw [show 40001 - l.length + l.length = 40001 by omega, List.append_nil] at this
      obtain ⟨k, hk⟩ : ∃ m, 40001 - l.length = m + 1 := ⟨40000 - l.length, by omega⟩
      rw [this, hk, dec_nil, List.nil_append]
    have hA := seg_all2 [] l a D hS
    rw [List.append_nil, List.append_nil] at hA
    rw [hE _ (by omega), bs, if_pos rfl, h4, bs, rsame_ok _ _ hA (by omega) _ (by omega), bs]
    exact hj
  · rw [hE _ (by omega), bs, if_neg (by simp)]
    exact hj
end Go.Proofs.Ytkbpdnhbmceajaa.Pure
