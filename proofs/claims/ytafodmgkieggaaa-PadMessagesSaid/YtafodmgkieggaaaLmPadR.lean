/- Plain lemmas on padded messages: tails, blocks and whole messages, in the reference. No conditions. -/
import Derived.Test.YtafodmgkieggaaaPDx2
import Derived.Test.YtafodmgkieggaaaLmPad
namespace Go.Proofs.Ytafodmgkieggaaa.Lm
open Go.RowKit Go.Proofs.Ytafodmgkieggaaa.PD Go.Proofs.YtafodmgkieggaaaW.PrintWords Go.Proofs.YtafodmgkieggaaaW.PrintLast Go.Proofs.YtafodmgkieggaaaW.PrintMore

theorem r02put64_step (k : Nat) (x : Int) (i : Nat) (l : List Int) (hi : i < 8) (h0 : 0 ≤ x) (h1 : x < 18446744073709551616) : drawlotref01_Put64.l0 (k + 1) x i l = drawlotref01_Put64.l0 k (x / 256) ((i : Int) - 1) (Ar.set 8 l i (x % 256)) := by
  have e1 : IntKind.u64.wrap (Int.tdiv x 256) = x / 256 := by rw [Int.tdiv_eq_ediv_of_nonneg h0, u64w]; omega
  have e2 : Int.tmod x 256 % 256 = x % 256 := by rw [Int.tmod_eq_emod_of_nonneg h0]; omega
  rw [drawlotref01_Put64.l0, if_pos (by omega), if_pos (by omega), if_pos (by omega), e1, e2, w64_id (by omega) (by omega)]
theorem r02put64_ok (k : Nat) (hk : 9 ≤ k) (x : Int) (h0 : 0 ≤ x) (h1 : x < 18446744073709551616) : drawlotref01_Put64.f k x = some (be8 x) := by
  obtain ⟨k, rfl⟩ : ∃ m, k = m + 9 := ⟨k - 9, by omega⟩
  unfold drawlotref01_Put64.f be8
  rw [show (7 : Int) = ((7 : Nat) : Int) from rfl, r02put64_step _ _ 7 _ (by decide) h0 h1, show ((7 : Nat) : Int) - 1 = ((6 : Nat) : Int) from rfl, r02put64_step _ _ 6 _ (by decide) (by omega) (by omega), show ((6 : Nat) : Int) - 1 = ((5 : Nat) : Int) from rfl,
    r02put64_step _ _ 5 _ (by decide) (by omega) (by omega), show ((5 : Nat) : Int) - 1 = ((4 : Nat) : Int) from rfl, r02put64_step _ _ 4 _ (by decide) (by omega) (by omega), show ((4 : Nat) : Int) - 1 = ((3 : Nat) : Int) from rfl, r02put64_step _ _ 3 _ (by decide) (by omega) (by omega), show ((3 : Nat) : Int) - 1 = ((2 : Nat) : Int) from rfl, r02put64_step _ _ 2 _ (by decide) (by omega) (by omega), show ((2 : Nat) : Int) - 1 = ((1 : Nat) : Int) from rfl,
    r02put64_step _ _ 1 _ (by decide) (by omega) (by omega), show ((1 : Nat) : Int) - 1 = ((0 : Nat) : Int) from rfl, r02put64_step _ _ 0 _ (by decide) (by omega) (by omega), drawlotref01_Put64.l0, if_neg (by decide)]
  have e2 : x / 256 / 256 = x / 65536 := by omega
  have e3 : x / 65536 / 256 = x / 16777216 := by omega
  have e4 : x / 16777216 / 256 = x / 4294967296 := by omega
  have e5 : x / 4294967296 / 256 = x / 1099511627776 := by omega
  have e6 : x / 1099511627776 / 256 = x / 281474976710656 := by omega
  have e7 : x / 281474976710656 / 256 = x / 72057594037927936 := by omega
  simp only [e2, e3, e4, e5, e6, e7]
  simp [Ar.set, Ar.fit, List.set]
theorem rfill (n : Int) : ∀ (z k : Nat) (x : List Int), (∀ i, i < z → (x.length + i) % 64 ≠ 56) → x.length + z < 100000 → drawlotref02_Tail.l0 (k + z) n x = drawlotref02_Tail.l0 k n (x ++ List.replicate z 0)
  | 0, k, x, _, _ => by simp
  | z + 1, k, x, h, hl => by
    have h0 := h 0 (by omega)
    rw [show k + (z + 1) = (k + z) + 1 by omega]
    conv => lhs; rw [drawlotref02_Tail.l0]
    rw [if_neg (by omega), if_pos (by omega), rfill n z k (x ++ [0]) (fun i hi => by have := h (i + 1) (by omega); rw [List.length_append, List.length_singleton]; omega) (by simp; omega), List.append_assoc, List.replicate_succ]
    rfl
theorem rcopy (k : Nat) (i : Nat) (x b : List Int) (hi : i < 8) (hl : x.length < 1000000) : drawlotref02_Tail.l1 (k + 1) x i b = drawlotref02_Tail.l1 k (x ++ [Ar.get 8 b i]) ((i + 1 : Nat) : Int) b := by
  conv => lhs; rw [drawlotref02_Tail.l1]
  rw [if_pos (by omega), if_pos (by omega), if_pos (by omega), w64_id (by omega) (by omega)]
  rfl
theorem rcopied (k : Nat) (hk : 9 ≤ k) (x : List Int) (z : Int) (hl : x.length < 100000) : drawlotref02_Tail.l1 k x 0 (be8 z) = some (x ++ be8 z, true) := by
  obtain ⟨k, rfl⟩ : ∃ m, k = m + 9 := ⟨k - 9, by omega⟩
  rw [show (0 : Int) = ((0 : Nat) : Int) from rfl, rcopy _ 0 _ _ (by decide) (by omega), rcopy _ 1 _ _ (by decide) (by simp; omega), rcopy _ 2 _ _ (by decide) (by simp; omega), rcopy _ 3 _ _ (by decide) (by simp; omega), rcopy _ 4 _ _ (by decide) (by simp; omega), rcopy _ 5 _ _ (by decide) (by simp; omega), rcopy _ 6 _ _ (by decide) (by simp; omega), rcopy _ 7 _ _ (by decide) (by simp; omega)]
  conv => lhs; rw [drawlotref02_Tail.l1]
  rw [if_neg (by decide)]
  have g : ∀ i, i < 8 → Ar.get 8 (be8 z) (i : Nat) = (be8 z).getD i 0 := by
    intro i hi
    unfold Ar.get
    rw [Ar.fit_id (be8_len z), rd_nat]
  rw [g 0 (by decide), g 1 (by decide), g 2 (by decide), g 3 (by decide), g 4 (by decide), g 5 (by decide), g 6 (by decide), g 7 (by decide)]
  simp [be8]
theorem rtail_ok (k : Nat) (hk : 90 ≤ k) (l : List Int) (n : Int) (h0 : 0 ≤ n) (h1 : n < 18446744073709551616) (hl : l.length < 90000) : drawlotref02_Tail.f k l n = some (if n ≥ 2305843009213693952 ∨ (l.length : Int) ≠ n % 64 then ([], false) else (tailF l n, true)) := by
  obtain ⟨k, rfl⟩ : ∃ m, k = (m + 80) + 1 := ⟨k - 81, by omega⟩
  unfold drawlotref02_Tail.f
  by_cases h : n ≥ 2305843009213693952
  · rw [if_pos h, if_pos (Or.inl h), drawlotref02_Tail.j0, if_pos rfl]
  · rw [if_neg h, u64w_id (x := (l.length : Int)) (by omega) (by omega), Int.tmod_eq_emod_of_nonneg h0]
    by_cases hr : (l.length : Int) = n % 64
    · rw [if_neg (by simp; omega), show ((l.length : Int) != n % 64) = false from bne_eq_false_iff_eq.mpr hr, drawlotref02_Tail.j0, if_neg (by decide), bs, if_pos (by simp; omega), bs, if_pos (by simp; omega)]
      have hz : zerosF l.length ≤ 63 := by unfold zerosF; split <;> omega
      rw [show k + 80 = ((k + 79 - zerosF l.length) + 1) + zerosF l.length by omega, rfill n _ _ _ (fun i hi => by
        unfold zerosF at hi
        simp only [List.nil_append, List.length_append, List.length_singleton]
        split at hi <;> omega) (by simp; omega)]
      conv => lhs; rw [drawlotref02_Tail.l0]
      rw [if_pos (by
        unfold zerosF
        simp only [List.nil_append, List.length_append, List.length_singleton, List.length_replicate]
        split <;> omega), r02put64_ok _ (by omega) _ (by rw [u64w]; omega) (by rw [u64w]; omega), bs, rcopied _ (by omega) _ _ (by simp; omega)]
      unfold tailF
      rw [show (8 * n : Int) = n * 8 by omega]
      simp
    · rw [if_pos (Or.inr hr), show ((l.length : Int) != n % 64) = true from bne_iff_ne.mpr hr, drawlotref02_Tail.j0, if_pos rfl]
end Go.Proofs.Ytafodmgkieggaaa.Lm
