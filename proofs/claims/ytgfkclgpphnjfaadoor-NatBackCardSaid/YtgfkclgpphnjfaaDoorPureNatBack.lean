/- What was added comes back, and what was divided. No conditions. -/
import Derived.Test.YtgfkclgpphnjfaaDoorPNx14
import Derived.Test.YtgfkclgpphnjfaaDoorLmAlive10
namespace Go.Proofs.YtgfkclgpphnjfaaDoor.Pure
open Go.RowKit Go.Proofs.YtgfkclgpphnjfaaDoor.PN Go.Proofs.YtgfkclgpphnjfaaDoorW.PrintWords Go.Proofs.YtgfkclgpphnjfaaDoorW.PrintLast Go.Proofs.YtgfkclgpphnjfaaDoor.Lm
theorem NatBack : drawlotlaw10_NatBack.Pure := by
  intro a b n _ _ ha _ _ hb hn
  have ha := Lim.of_wf ha
  have hb := Lim.of_wf hb
  have hn := wf64 hn
  refine ⟨303000, ?_⟩
  generalize hK : (303000 : Nat) = K
  have same : ∀ x : List Int, x.length ≤ 300 → drawlotref10_Same.f K x x = some true := fun x h => rsame_p _ K (by omega) (by omega)
  unfold drawlotlaw10_NatBack.f
  rw [alive10 K (by omega), bs, if_pos rfl]
  by_cases ma : a.length ≤ 250
  · rw [if_neg (by omega)]
    by_cases mb : b.length ≤ 250
    · rw [if_neg (by omega), rright_b ha, bs]
      by_cases ca : rb a = true
      · rw [if_pos ca, rright_b hb, bs]
        by_cases cb : rb b = true
        · rw [if_pos cb]
          have va := vl_nonneg ha
          have vb := vl_nonneg hb
          have pa := vl_lt ha
          have pb := vl_lt hb
          have qa := Bmono (show a.length ≤ 250 by omega)
          have qb := Bmono (show b.length ≤ 250 by omega)
          have ea := can_eq ca
          have eb := can_eq cb
          have big : ∀ x : Int, 0 ≤ x → x < 2 * 4294967296 ^ 250 → (nl x).length ≤ 256 := fun x h0 h1 => fits 251 h0 (by rw [Bsucc]; have := Bpos 250; omega) (by omega)
          have lsum : (nl (vl a + vl b)).length ≤ 256 := big _ (by omega) (by omega)
          have la : (nl (vl a)).length ≤ 256 := by rw [ea]; omega
          have lb : (nl (vl b)).length ≤ 256 := by rw [eb]; omega
          have s1 : addF [a, b] = (nl (vl a + vl b), 0) := by
            have := add_two va vb la lb lsum
            rw [ea, eb] at this
            exact this
          have s2 : addF [b, a] = (nl (vl a + vl b), 0) := by
            have := add_two vb va lb la (by rw [Int.add_comm]; exact lsum)
            rw [ea, eb, Int.add_comm] at this
            exact this
          have s3 : subF (nl (vl a + vl b)) a = (b, 0) := by
            unfold subF
            rw [if_pos (by rw [rb_nl (by omega) lsum, ca]; rfl), vl_nl (by omega), if_neg (by omega), show vl a + vl b - vl a = vl b by omega, eb]
          rw [(add_b (Lims.cons ha (Lims.cons hb Lims.nil)) (by simp) K (by omega)).1, bs, s1, (add_b (Lims.cons hb (Lims.cons ha Lims.nil)) (by simp) K (by omega)).1, bs, s2]
          simp only
          rw [sub_b (Lim_nl _) ha K (by omega), bs, s3, if_pos trivial, if_pos trivial, if_pos rfl, same _ (by omega), bs, if_pos rfl, same b (by omega), bs, if_pos rfl, div_b ha hn.1 K (by omega), bs]
          by_cases cd : n ≠ 0 ∧ n < 9223372036854775808
          · have e1 : divF a n = (nl (vl a / n), vl a % n, 0) := by unfold divF; rw [if_pos ⟨ca, cd⟩]
            have n0 : 0 < n := by omega
            have q0 : 0 ≤ vl a / n := Int.ediv_nonneg va hn.1
            have q1 : vl a / n ≤ vl a := Int.ediv_le_self _ va
            have r0 : 0 ≤ vl a % n := Int.emod_nonneg _ cd.1
            have r1 : vl a % n < n := Int.emod_lt_of_pos _ n0
            have e := Int.mul_ediv_add_emod (vl a) n
            have hm : vl a / n * n ≤ vl a := by rw [Int.mul_comm]; omega
            have m0 : 0 ≤ vl a / n * n := Int.mul_nonneg q0 hn.1
            have lq := big _ q0 (by omega)
            have ln : (nl n).length ≤ 256 := fits 2 hn.1 (by have := hn.2; simpa using this) (by omega)
            have lr : (nl (vl a % n)).length ≤ 256 := fits 2 r0 (by have := hn.2; have : vl a % n < 18446744073709551616 := by omega
                                                                    simpa using this) (by omega)
            have lm := big _ m0 (by omega)
            have e2 : mulF [nl (vl a / n), nl n] = (nl (vl a / n * n), 0) := mul_two q0 hn.1 lq ln lm
            have e4 : vl a / n * n + vl a % n = vl a := by rw [Int.mul_comm]; exact e
            have e3 : addF [nl (vl a / n * n), nl (vl a % n)] = (a, 0) := by
              have := add_two m0 r0 lm lr (by rw [e4]; exact la)
              rw [e4, ea] at this
              exact this
            rw [e1]
            simp only
            rw [if_pos trivial, of_p hn.1 hn.2 K (by omega), bs, (mul_b (Lims.cons (Lim_nl _) (Lims.cons (Lim_nl _) Lims.nil)) (by simp) K (by omega)).1, bs, e2]
            simp only
            rw [of_p r0 (by omega) K (by omega), bs, (add_b (Lims.cons (Lim_nl _) (Lims.cons (Lim_nl _) Lims.nil)) (by simp) K (by omega)).1, bs, e3]
            simp only
            rw [if_pos r1, if_pos trivial, if_pos trivial, same a (by omega), bs]
          · have e1 : divF a n = ([], 0, 1) := by unfold divF; rw [if_neg (fun h => cd h.2)]
            rw [e1]
            simp only
            rw [if_neg (by decide), if_pos (by rfl), if_pos trivial]
            by_cases z : n = 0
            · rw [if_pos z]
            · rw [if_neg z, decide_eq_true (show n ≥ 9223372036854775808 by omega)]
        · rw [if_neg cb]
      · rw [if_neg ca]
    · rw [if_pos (by omega)]
  · rw [if_pos (by omega)]
end Go.Proofs.YtgfkclgpphnjfaaDoor.Pure
