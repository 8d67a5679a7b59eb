/- Plain lemmas on padded messages: how many blocks, the blocks themselves and whole messages, in the reference. No conditions. -/
import Derived.Test.YtafodmgkieggaaaPDx3
import Derived.Test.YtafodmgkieggaaaPDx2
import Derived.Test.YtafodmgkieggaaaLmPadR
namespace Go.Proofs.Ytafodmgkieggaaa.Lm
open Go.RowKit Go.Proofs.Ytafodmgkieggaaa.PD Go.Proofs.YtafodmgkieggaaaW.PrintWords Go.Proofs.YtafodmgkieggaaaW.PrintLast Go.Proofs.YtafodmgkieggaaaW.PrintMore

theorem rcut_loop : ∀ (m k : Nat) (b : List Int) (out : List (List Int)) (t : Nat), (b.length - t) / 64 = m → t ≤ b.length → m < k → out.length + m < 1048576 → b.length < 1000000 → drawlotref02_Cut.l0 k b out (t : Int) = some (out ++ cutF m (b.drop t), b.drop (t + 64 * m))
  | 0, k + 1, b, out, t, h, ht, _, _, hb => by
    rw [drawlotref02_Cut.l0, if_pos ⟨by omega, by omega, by omega⟩, if_neg (by omega)]
    simp [cutF]
  | m + 1, k + 1, b, out, t, h, ht, hk, ho, hb => by
    have e := rcut_loop m k b (out ++ [(b.drop t).take 64]) (t + 64) (by omega) (by omega) (by omega) (by simp; omega) hb
    rw [drawlotref02_Cut.l0, if_pos ⟨by omega, by omega, by omega⟩, if_pos (by omega), if_pos (by omega), Int.toNat_natCast, show ((t : Int) + 64) = ((t + 64 : Nat) : Int) by omega, e, cutF, List.drop_drop, show t + 64 + 64 * m = t + 64 * (m + 1) by omega]
    simp
theorem rcut_ok (k : Nat) (l : List Int) (hk : l.length / 64 < k) (hl : l.length < 1000000) : drawlotref02_Cut.f k l = some (cutF (l.length / 64) l, l.drop (64 * (l.length / 64))) := by
  unfold drawlotref02_Cut.f
  have := rcut_loop (l.length / 64) k l [] 0 (by simp) (by omega) hk (by simp; omega) hl
  rw [show (0 : Int) = ((0 : Nat) : Int) from rfl, this]
  simp
theorem rsame_loop (a : List (List Int)) (ha : a.length < 1000000) : ∀ (m k i : Nat), i + m = a.length → m < k → drawlotref02_Same.l0 k a a (i : Int) = some true
  | 0, k + 1, i, h, _ => by rw [drawlotref02_Same.l0, if_neg (by omega)]
  | m + 1, k + 1, i, h, hk => by
    rw [drawlotref02_Same.l0, if_pos (by omega), if_pos ⟨by omega, by omega⟩, if_pos (by simp [Ar.eqb]), w64_id (by omega) (by omega), show (i : Int) + 1 = ((i + 1 : Nat) : Int) by omega]
    exact rsame_loop a ha m k (i + 1) (by omega) (by omega)
theorem rsame_ok (k : Nat) (a : List (List Int)) (hk : a.length < k) (ha : a.length < 1000000) : drawlotref02_Same.f k a a = some true := by
  unfold drawlotref02_Same.f
  rw [if_pos rfl, show (0 : Int) = ((0 : Nat) : Int) from rfl]
  exact rsame_loop a ha a.length k 0 (by omega) hk
theorem rpad_ok (k : Nat) (hk : 90 ≤ k) (l : List Int) (hl : l.length ≤ 2000) : drawlotref02_Pad.f k l = some (padF l) := by
  unfold drawlotref02_Pad.f
  have hd : (l.drop ((l.length : Int) - (l.length : Int) % 64).toNat).length = l.length % 64 := by rw [List.length_drop]; omega
  have ht : drawlotref02_Tail.f k (l.drop ((l.length : Int) - (l.length : Int) % 64).toNat) (l.length : Int) = some (tailF (l.drop ((l.length : Int) - (l.length : Int) % 64).toNat) (l.length : Int), true) := by
    rw [rtail_ok k hk _ _ (by omega) (by omega) (by omega), if_neg]
    rw [hd]; omega
  have hz : (tailF (l.drop ((l.length : Int) - (l.length : Int) % 64).toNat) (l.length : Int)).length < 5000 := by
    unfold tailF zerosF
    simp only [List.length_append, List.length_cons, List.length_replicate, be8_len, hd]
    split <;> omega
  rw [w64_id (by omega) (by omega), if_pos (by omega), if_pos (by omega), u64w_id (x := (l.length : Int)) (by omega) (by omega), ht, bs, bs, if_pos (by simp; omega), bs, if_pos (by simp; omega)]
  unfold tailF padF
  rw [hd, List.nil_append, ← List.append_assoc, List.take_append_drop, u64w_id (by omega) (by omega)]
end Go.Proofs.Ytafodmgkieggaaa.Lm
