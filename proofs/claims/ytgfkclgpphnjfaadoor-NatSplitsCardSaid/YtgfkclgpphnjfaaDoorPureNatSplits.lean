/- A product of a sum is the sum of the products. No conditions. -/
import Derived.Test.YtgfkclgpphnjfaaDoorPNx15
import Derived.Test.YtgfkclgpphnjfaaDoorLmAlive10
namespace Go.Proofs.YtgfkclgpphnjfaaDoor.Pure
open Go.RowKit Go.Proofs.YtgfkclgpphnjfaaDoor.PN Go.Proofs.YtgfkclgpphnjfaaDoorW.PrintWords Go.Proofs.YtgfkclgpphnjfaaDoorW.PrintLast Go.Proofs.YtgfkclgpphnjfaaDoor.Lm
theorem NatSplits : drawlotlaw10_NatSplits.Pure := by
  intro a b c _ _ ha _ _ hb _ _ hc
  have ha := Lim.of_wf ha
  have hb := Lim.of_wf hb
  have hc := Lim.of_wf hc
  refine ⟨303000, ?_⟩
  generalize hK : (303000 : Nat) = K
  have same : ∀ x : List Int, x.length ≤ 300 → drawlotref10_Same.f K x x = some true := fun x h => rsame_p _ K (by omega) (by omega)
  unfold drawlotlaw10_NatSplits.f
  rw [alive10 K (by omega), bs, if_pos rfl]
  by_cases ma : a.length ≤ 60
  · rw [if_neg (by omega)]
    by_cases mb : b.length ≤ 60
    · rw [if_neg (by omega)]
      by_cases mc : c.length ≤ 60
      · rw [if_neg (by omega), rright_b ha, bs]
        by_cases ca : rb a = true
        · rw [if_pos ca, rright_b hb, bs]
          by_cases cb : rb b = true
          · rw [if_pos cb, rright_b hc, bs]
            by_cases cc : rb c = true
            · rw [if_pos cc]
              have va := vl_nonneg ha
              have vb := vl_nonneg hb
              have vc := vl_nonneg hc
              have B0 := Bpos 60
              have pa : vl a < 4294967296 ^ 60 := Int.lt_of_lt_of_le (vl_lt ha) (Bmono (by omega))
              have pb : vl b < 4294967296 ^ 60 := Int.lt_of_lt_of_le (vl_lt hb) (Bmono (by omega))
              have pc : vl c < 4294967296 ^ 60 := Int.lt_of_lt_of_le (vl_lt hc) (Bmono (by omega))
              have h1 : (2 : Int) * 4294967296 ^ 60 < 4294967296 ^ 61 := by decide +kernel
              have h2 : (2 : Int) * 4294967296 ^ 60 * 4294967296 ^ 60 < 4294967296 ^ 121 := by decide +kernel
              have prd : ∀ x y : Int, 0 ≤ x → 0 ≤ y → x ≤ 2 * 4294967296 ^ 60 → y ≤ 4294967296 ^ 60 → 0 ≤ x * y ∧ x * y < 4294967296 ^ 121 := fun x y x0 y0 x1 y1 =>
                ⟨Int.mul_nonneg x0 y0, Int.lt_of_le_of_lt (Int.mul_le_mul x1 y1 y0 (by omega)) h2⟩
              have fa : ∀ x : Int, 0 ≤ x → x < 2 * 4294967296 ^ 60 → (nl x).length ≤ 256 := fun x x0 x1 => fits 61 x0 (by omega) (by omega)
              have fp : ∀ x : Int, 0 ≤ x → x < 4294967296 ^ 121 → (nl x).length ≤ 256 := fun x x0 x1 => fits 121 x0 x1 (by omega)
              have ea := can_eq ca
              have eb := can_eq cb
              have ec := can_eq cc
              have la := fa _ va (by omega)
              have lb := fa _ vb (by omega)
              have lc := fa _ vc (by omega)
              have ls := fa (vl a + vl b) (by omega) (by omega)
              have q1 := prd (vl a + vl b) (vl c) (by omega) vc (by omega) (by omega)
              have q2 := prd (vl a) (vl c) va vc (by omega) (by omega)
              have q3 := prd (vl c) (vl b) vc vb (by omega) (by omega)
              have eq : vl a * vl c + vl c * vl b = (vl a + vl b) * vl c := by rw [Int.add_mul, Int.mul_comm (vl c)]
              have s1 : addF [a, b] = (nl (vl a + vl b), 0) := by
                have := add_two va vb la lb ls
                rw [ea, eb] at this
                exact this
              have s2 : mulF [nl (vl a + vl b), c] = (nl ((vl a + vl b) * vl c), 0) := by
                have := mul_two (show 0 ≤ vl a + vl b by omega) vc ls lc (fp _ q1.1 q1.2)
                rw [ec] at this
                exact this
              have s3 : mulF [a, c] = (nl (vl a * vl c), 0) := by
                have := mul_two va vc la lc (fp _ q2.1 q2.2)
                rw [ea, ec] at this
                exact this
              have s4 : mulF [c, b] = (nl (vl c * vl b), 0) := by
                have := mul_two vc vb lc lb (fp _ q3.1 q3.2)
                rw [ec, eb] at this
                exact this
              have s5 : addF [nl (vl a * vl c), nl (vl c * vl b)] = (nl ((vl a + vl b) * vl c), 0) := by
                have := add_two q2.1 q3.1 (fp _ q2.1 q2.2) (fp _ q3.1 q3.2) (by rw [eq]; exact fp _ q1.1 q1.2)
                rw [eq] at this
                exact this
              rw [(add_b (Lims.cons ha (Lims.cons hb Lims.nil)) (by simp) K (by omega)).1, bs, s1]
              simp only
              rw [(mul_b (Lims.cons (Lim_nl _) (Lims.cons hc Lims.nil)) (by simp) K (by omega)).1, bs, s2, (mul_b (Lims.cons ha (Lims.cons hc Lims.nil)) (by simp) K (by omega)).1, bs, s3, (mul_b (Lims.cons hc (Lims.cons hb Lims.nil)) (by simp) K (by omega)).1, bs, s4]
              simp only
              rw [(add_b (Lims.cons (Lim_nl _) (Lims.cons (Lim_nl _) Lims.nil)) (by simp) K (by omega)).1, bs, s5]
              simp only
              rw [if_pos trivial, if_pos trivial, if_pos trivial, if_pos trivial, if_pos trivial, same _ (Nat.le_trans (fp _ q1.1 q1.2) (by omega)), bs]
            · rw [if_neg cc]
          · rw [if_neg cb]
        · rw [if_neg ca]
      · rw [if_pos (by omega)]
    · rw [if_pos (by omega)]
  · rw [if_pos (by omega)]
end Go.Proofs.YtgfkclgpphnjfaaDoor.Pure
