/- The shares of two places stand to each other as their stakes. No conditions. -/
import Derived.Test.YtbafkkbbjacekaaPSx7
import Derived.Test.YtbafkkbbjacekaaLmOdds
namespace Go.Proofs.Ytbafkkbbjacekaa.Pure
open Go.RowKit Go.Proofs.Ytbafkkbbjacekaa.PS Go.Proofs.YtbafkkbbjacekaaW.PrintWords Go.Proofs.YtbafkkbbjacekaaW.PrintLast Go.Proofs.Ytbafkkbbjacekaa.Lm
theorem alive16h (k : Nat) (hk : 400 ≤ k) : drawlotlaw16_alive.f k = some true := at_rounds (g := fun k => drawlotlaw16_alive.f k) (fun k => drawlotlaw16_alive.mono k) (k := 400) (k' := k) hk (r := true) (by decide +kernel)
theorem stake_ok {l : List Int} (hl : U64 l) {w : Int} (hw : 0 < w) (hs : l.sum < 9223372036854775808) (hz : l.sum ≠ 0) (hw1 : l.sum * w < 9223372036854775808) {i : Int} (h0 : 0 ≤ i) (h1 : i < l.length) :
    stakeF w i 3 l = (nl (w * rd l i * aE (l.sum * w) 3), 0) ∧ 0 ≤ w * rd l i * aE (l.sum * w) 3 ∧ (nl (w * rd l i * aE (l.sum * w) 3)).length ≤ 127 := by
  have hp := sum_nonneg hl
  have hr := rd_le_sum hl h0 h1
  have hr0 := (hl.rd i).1
  have q0 := Int.mul_nonneg (Int.le_of_lt hw) hr0
  have q1 := Int.mul_le_mul_of_nonneg_left hr (Int.le_of_lt hw)
  rw [Int.mul_comm w l.sum] at q1
  have q2 : 0 < l.sum * w := Int.mul_pos (by omega) hw
  have s := share_le q2 3 q0 q1
  refine ⟨?_, s.1, aA_len q2 hw1 (by decide) s.1 s.2⟩
  unfold stakeF
  rw [if_pos ⟨by omega, by omega⟩, if_pos hs, if_neg hz, if_pos hw1, if_pos ⟨h0, h1⟩]
  rfl
theorem OddsShares : drawlotlaw16_OddsShares.Pure := by
  intro a b l ha hb hlen hbytes hw
  have hu := U64.of_wf hw
  have ha := wf8 ha
  have hb := wf8 hb
  have hp := sum_nonneg hu
  refine ⟨330000, ?_⟩
  generalize hK : (330000 : Nat) = K
  unfold drawlotlaw16_OddsShares.f
  rw [alive16h _ (by omega), bs, if_pos rfl]
  by_cases h : (l.length : Int) > 20
  · rw [if_pos h]
  · rw [if_neg h]
    by_cases z : (l.length : Int) = 0
    · rw [if_pos z]
    · have hk : 310000 ≤ K := by omega
      rw [if_neg z, w64_id (x := a) (by omega) (by omega), w64_id (x := b) (by omega) (by omega), Int.tmod_eq_emod_of_nonneg ha.1, Int.tmod_eq_emod_of_nonneg hb.1]
      have i0 := Int.emod_nonneg a z
      have i1 := Int.emod_lt_of_pos a (show 0 < (l.length : Int) by omega)
      have j0 := Int.emod_nonneg b z
      have j1 := Int.emod_lt_of_pos b (show 0 < (l.length : Int) by omega)
      generalize a % (l.length : Int) = i at *
      generalize b % (l.length : Int) = j at *
      rw [lead_p hu (by omega) i 3 K hk, bs, lead_p hu (by omega) j 3 K hk, bs, pick_p hu (by omega) i 3 K hk, bs, pick_p hu (by omega) j 3 K hk, bs]
      by_cases c : l.sum < 9223372036854775808
      · by_cases g : l.sum = 0
        · have e : ∀ w x : Int, stakeF w x 3 l = ([], 10) := fun w x => by
            unfold stakeF
            rw [if_pos ⟨by omega, by omega⟩, if_pos c, if_pos g]
          rw [e, e, if_neg (by decide), if_pos rfl]
          simp [wrap64]
        · obtain ⟨a1, a2, a3⟩ := stake_ok hu (w := 1) (by omega) c g (by omega) i0 i1
          obtain ⟨b1, b2, b3⟩ := stake_ok hu (w := 1) (by omega) c g (by omega) j0 j1
          have ri := hu.rd i
          have rj := hu.rd j
          have li : (nl (rd l i)).length ≤ 2 := nl_len ri.1 (by omega)
          have lj : (nl (rd l j)).length ≤ 2 := nl_len rj.1 (by omega)
          have sw : ∀ w E : Int, w * rd l i * E * rd l j = w * rd l j * E * rd l i := fun w E => by grind
          have big : ∀ x y : Int, 0 ≤ x → 0 ≤ y → (nl x).length ≤ 127 → (nl y).length ≤ 2 → (nl (x * y)).length ≤ 129 := fun x y hx hy p q => nl_len (Int.mul_nonneg hx hy) (by
            have u := nl_lt hx
            have v := nl_lt hy
            have u := Int.lt_of_lt_of_le u (Bmono p)
            have v := Int.lt_of_lt_of_le v (Bmono q)
            rw [show 129 = 127 + 2 from rfl, Int.pow_add]
            exact Int.lt_of_le_of_lt (Int.mul_le_mul_of_nonneg_right (Int.le_of_lt u) hy) (Int.mul_lt_mul_of_pos_left v (Bpos 127)))
          rw [a1, b1, if_pos rfl, if_pos rfl, if_neg (by dsimp only; omega), if_neg (by dsimp only; omega)]
          have oi := rof_p ri.1 ri.2 K (by omega)
          have oj := rof_p rj.1 rj.2 K (by omega)
          have tx : ∀ x y : Int, 0 ≤ x → 0 ≤ y → (nl x).length ≤ 127 → (nl y).length ≤ 2 → drawlotref10_Times.f K (nl x) (nl y) = some (nl (x * y)) := fun x y hx hy kx ky => times_p hx hy (by omega) (by omega) K (by omega)
          have sm : ∀ x y : Int, 0 ≤ x → 0 ≤ y → (nl x).length ≤ 127 → (nl y).length ≤ 2 → drawlotref10_Same.f K (nl (x * y)) (nl (x * y)) = some true := fun x y hx hy kx ky => rsame_p _ K (by have := big x y hx hy kx ky; omega) (by have := big x y hx hy kx ky; omega)
          rw [if_pos j0, if_pos j1, oj, bs]
          dsimp only
          rw [tx _ _ a2 rj.1 a3 lj, bs, if_pos i0, if_pos i1, oi, bs]
          rw [tx _ _ b2 ri.1 b3 li, bs, ← sw 1, sm _ _ a2 rj.1 a3 lj, bs, if_pos rfl]
          by_cases p : l.sum * l.length < 9223372036854775808
          · obtain ⟨p1, p2, p3⟩ := stake_ok hu (w := (l.length : Int)) (by omega) c g p i0 i1
            obtain ⟨q1, q2, q3⟩ := stake_ok hu (w := (l.length : Int)) (by omega) c g p j0 j1
            rw [p1, q1]
            dsimp only
            rw [if_neg (by omega), if_neg (by omega), if_pos rfl, if_pos rfl]
            rw [bs, tx _ _ p2 rj.1 p3 lj, bs, bs, tx _ _ q2 ri.1 q3 li, bs, ← sw (l.length : Int), sm _ _ p2 rj.1 p3 lj, bs]
          · have e : ∀ x : Int, stakeF (l.length : Int) x 3 l = ([], 11) := fun x => by
              unfold stakeF
              rw [if_pos ⟨by omega, by omega⟩, if_pos c, if_neg g, if_neg p]
            rw [e, e, if_neg (by simp), if_neg (by simp), if_neg (by decide), if_pos rfl]
            decide
      · have e : ∀ w x : Int, stakeF w x 3 l = ([], 11) := fun w x => by
          unfold stakeF
          rw [if_pos ⟨by omega, by omega⟩, if_neg c]
        rw [e, e, if_neg (by decide), if_pos rfl]
        simp [wrap64]
end Go.Proofs.Ytbafkkbbjacekaa.Pure
