/- Plain lemmas on numbers and their bytes, in the reference; and on how many bits a number has. No conditions. -/
import Derived.Test.YtkbpdnhbmceajaaPQx6
import Derived.Test.YtkbpdnhbmceajaaPQx10
import Derived.Test.YtkbpdnhbmceajaaLmBytes
namespace Go.Proofs.Ytkbpdnhbmceajaa.Lm
open Go.RowKit Go.Proofs.Ytkbpdnhbmceajaa.PQ Go.Proofs.YtkbpdnhbmceajaaW.PrintWords Go.Proofs.YtkbpdnhbmceajaaW.PrintLast Go.Proofs.YtkbpdnhbmceajaaW.PrintMore

theorem r01put64_step (k : Nat) (x : Int) (i : Nat) (l : List Int) (hi : i < 8) (h0 : 0 ≤ x) (h1 : x < 18446744073709551616) : drawlotref01_Put64.l0 (k + 1) x i l = drawlotref01_Put64.l0 k (x / 256) ((i : Int) - 1) (Ar.set 8 l i (x % 256)) := by
  have e1 : IntKind.u64.wrap (Int.tdiv x 256) = x / 256 := by rw [Int.tdiv_eq_ediv_of_nonneg h0, u64w]; omega
  have e2 : Int.tmod x 256 % 256 = x % 256 := by rw [Int.tmod_eq_emod_of_nonneg h0]; omega
  rw [drawlotref01_Put64.l0, if_pos (by omega), if_pos (by omega), if_pos (by omega), e1, e2, w64_id (by omega) (by omega)]
theorem r01put64_ok (k : Nat) (hk : 9 ≤ k) (x : Int) (h0 : 0 ≤ x) (h1 : x < 18446744073709551616) : drawlotref01_Put64.f k x = some [x / 72057594037927936 % 256, x / 281474976710656 % 256, x / 1099511627776 % 256, x / 4294967296 % 256, x / 16777216 % 256, x / 65536 % 256, x / 256 % 256, x % 256] := by
  obtain ⟨k, rfl⟩ : ∃ m, k = m + 9 := ⟨k - 9, by omega⟩
  unfold drawlotref01_Put64.f
  rw [show (7 : Int) = ((7 : Nat) : Int) from rfl, r01put64_step _ _ 7 _ (by decide) h0 h1, show ((7 : Nat) : Int) - 1 = ((6 : Nat) : Int) from rfl, r01put64_step _ _ 6 _ (by decide) (by omega) (by omega), show ((6 : Nat) : Int) - 1 = ((5 : Nat) : Int) from rfl,
    r01put64_step _ _ 5 _ (by decide) (by omega) (by omega), show ((5 : Nat) : Int) - 1 = ((4 : Nat) : Int) from rfl, r01put64_step _ _ 4 _ (by decide) (by omega) (by omega), show ((4 : Nat) : Int) - 1 = ((3 : Nat) : Int) from rfl,
    r01put64_step _ _ 3 _ (by decide) (by omega) (by omega), show ((3 : Nat) : Int) - 1 = ((2 : Nat) : Int) from rfl, r01put64_step _ _ 2 _ (by decide) (by omega) (by omega), show ((2 : Nat) : Int) - 1 = ((1 : Nat) : Int) from rfl,
    r01put64_step _ _ 1 _ (by decide) (by omega) (by omega), show ((1 : Nat) : Int) - 1 = ((0 : Nat) : Int) from rfl, r01put64_step _ _ 0 _ (by decide) (by omega) (by omega), drawlotref01_Put64.l0, if_neg (by decide)]
  have e2 : x / 256 / 256 = x / 65536 := by omega
  have e3 : x / 65536 / 256 = x / 16777216 := by omega
  have e4 : x / 16777216 / 256 = x / 4294967296 := by omega
  have e5 : x / 4294967296 / 256 = x / 1099511627776 := by omega
  have e6 : x / 1099511627776 / 256 = x / 281474976710656 := by omega
  have e7 : x / 281474976710656 / 256 = x / 72057594037927936 := by omega
  rw [e2, e3, e4, e5, e6, e7]
  simp [Ar.set, Ar.fit, List.set]
theorem r01get64_step (k : Nat) (acc : Int) (l : List Int) (i : Nat) (hi : i < 8) (ha0 : 0 ≤ acc) (ha1 : acc < 256 ^ i) (hb : 0 ≤ Ar.get 8 l i ∧ Ar.get 8 l i < 256) : drawlotref01_Get64.l0 (k + 1) acc i l = drawlotref01_Get64.l0 k (acc * 256 + Ar.get 8 l i) ((i + 1 : Nat) : Int) l := by
  have e4 : wrap64 ((i : Int) + 1) = ((i + 1 : Nat) : Int) := by rw [w64_id (by omega) (by omega)]; omega
  have hlt : acc < 72057594037927936 := by
    rcases (show i = 0 ∨ i = 1 ∨ i = 2 ∨ i = 3 ∨ i = 4 ∨ i = 5 ∨ i = 6 ∨ i = 7 by omega) with rfl | rfl | rfl | rfl | rfl | rfl | rfl | rfl <;> simp at ha1 <;> omega
  have e1 : IntKind.u64.wrap (acc * 256) = acc * 256 := u64w_id (by omega) (by omega)
  have e2 : IntKind.u64.wrap (Ar.get 8 l i) = Ar.get 8 l i := u64w_id (by omega) (by omega)
  rw [drawlotref01_Get64.l0, if_pos (by omega), if_pos (by omega), e1, e2, u64w_id (by omega) (by omega), e4]
theorem r01get64_ok (k : Nat) (hk : 9 ≤ k) (b0 b1 b2 b3 b4 b5 b6 b7 : Int) (h : ∀ b ∈ [b0, b1, b2, b3, b4, b5, b6, b7], 0 ≤ b ∧ b < 256) :
    drawlotref01_Get64.f k [b0, b1, b2, b3, b4, b5, b6, b7] = some (((((((b0 * 256 + b1) * 256 + b2) * 256 + b3) * 256 + b4) * 256 + b5) * 256 + b6) * 256 + b7) := by
  obtain ⟨k, rfl⟩ : ∃ m, k = m + 9 := ⟨k - 9, by omega⟩
  simp only [List.mem_cons, List.not_mem_nil, or_false, forall_eq_or_imp, forall_eq] at h
  obtain ⟨h0, h1, h2, h3, h4, h5, h6, h7⟩ := h
  unfold drawlotref01_Get64.f
  have s := fun k acc i hi => r01get64_step k acc [b0, b1, b2, b3, b4, b5, b6, b7] i hi
  have hz := s (k + 8) 0 0 (by decide) (by decide) (by decide) h0
  have z : (0 : Int) * 256 + Ar.get 8 [b0, b1, b2, b3, b4, b5, b6, b7] (0 : Nat) = b0 := by show (0 : Int) * 256 + b0 = b0; omega
  rw [z] at hz
  refine Eq.trans hz ?_
  rw [s _ _ 1 (by decide) (by omega) (by show b0 < 256; omega) h1]
  show drawlotref01_Get64.l0 _ (b0 * 256 + b1) _ _ = _
  rw [s _ _ 2 (by decide) (by omega) (by show _ < (65536 : Int); omega) h2]
  show drawlotref01_Get64.l0 _ ((b0 * 256 + b1) * 256 + b2) _ _ = _
  rw [s _ _ 3 (by decide) (by omega) (by show _ < (16777216 : Int); omega) h3]
  show drawlotref01_Get64.l0 _ (((b0 * 256 + b1) * 256 + b2) * 256 + b3) _ _ = _
  rw [s _ _ 4 (by decide) (by omega) (by show _ < (4294967296 : Int); omega) h4]
  show drawlotref01_Get64.l0 _ ((((b0 * 256 + b1) * 256 + b2) * 256 + b3) * 256 + b4) _ _ = _
  rw [s _ _ 5 (by decide) (by omega) (by show _ < (1099511627776 : Int); omega) h5]
  show drawlotref01_Get64.l0 _ (((((b0 * 256 + b1) * 256 + b2) * 256 + b3) * 256 + b4) * 256 + b5) _ _ = _
  rw [s _ _ 6 (by decide) (by omega) (by show _ < (281474976710656 : Int); omega) h6]
  show drawlotref01_Get64.l0 _ ((((((b0 * 256 + b1) * 256 + b2) * 256 + b3) * 256 + b4) * 256 + b5) * 256 + b6) _ _ = _
  rw [s _ _ 7 (by decide) (by omega) (by show _ < (72057594037927936 : Int); omega) h7]
  show drawlotref01_Get64.l0 _ (((((((b0 * 256 + b1) * 256 + b2) * 256 + b3) * 256 + b4) * 256 + b5) * 256 + b6) * 256 + b7) _ _ = _
  rw [drawlotref01_Get64.l0, if_neg (by decide)]
theorem r01get32_step (k : Nat) (acc : Int) (l : List Int) (i : Nat) (hi : i < 4) (ha0 : 0 ≤ acc) (ha1 : acc < 256 ^ i) (hb : 0 ≤ Ar.get 4 l i ∧ Ar.get 4 l i < 256) : drawlotref01_Get32.l0 (k + 1) acc i l = drawlotref01_Get32.l0 k (acc * 256 + Ar.get 4 l i) ((i + 1 : Nat) : Int) l := by
  have e4 : wrap64 ((i : Int) + 1) = ((i + 1 : Nat) : Int) := by rw [w64_id (by omega) (by omega)]; omega
  have hlt : acc < 16777216 := by
    rcases (show i = 0 ∨ i = 1 ∨ i = 2 ∨ i = 3 by omega) with rfl | rfl | rfl | rfl <;> simp at ha1 <;> omega
  have e1 : (acc * 256 % 4294967296 + Ar.get 4 l i % 4294967296) % 4294967296 = acc * 256 + Ar.get 4 l i := by omega
  rw [drawlotref01_Get32.l0, if_pos (by omega), if_pos (by omega), e1, e4]
theorem r01get32_ok (k : Nat) (hk : 5 ≤ k) (b0 b1 b2 b3 : Int) (h : ∀ b ∈ [b0, b1, b2, b3], 0 ≤ b ∧ b < 256) : drawlotref01_Get32.f k [b0, b1, b2, b3] = some (((b0 * 256 + b1) * 256 + b2) * 256 + b3) := by
  obtain ⟨k, rfl⟩ : ∃ m, k = m + 5 := ⟨k - 5, by omega⟩
  simp only [List.mem_cons, List.not_mem_nil, or_false, forall_eq_or_imp, forall_eq] at h
  obtain ⟨h0, h1, h2, h3⟩ := h
  unfold drawlotref01_Get32.f
  have s := fun k acc i hi => r01get32_step k acc [b0, b1, b2, b3] i hi
  have hz := s (k + 4) 0 0 (by decide) (by decide) (by decide) h0
  have z : (0 : Int) * 256 + Ar.get 4 [b0, b1, b2, b3] (0 : Nat) = b0 := by show (0 : Int) * 256 + b0 = b0; omega
  rw [z] at hz
  refine Eq.trans hz ?_
  rw [s _ _ 1 (by decide) (by omega) (by show b0 < 256; omega) h1]
  show drawlotref01_Get32.l0 _ (b0 * 256 + b1) _ _ = _
  rw [s _ _ 2 (by decide) (by omega) (by show _ < (65536 : Int); omega) h2]
  show drawlotref01_Get32.l0 _ ((b0 * 256 + b1) * 256 + b2) _ _ = _
  rw [s _ _ 3 (by decide) (by omega) (by show _ < (16777216 : Int); omega) h3]
  show drawlotref01_Get32.l0 _ (((b0 * 256 + b1) * 256 + b2) * 256 + b3) _ _ = _
  rw [drawlotref01_Get32.l0, if_neg (by decide)]
theorem put32_eq (x : Int) (h0 : 0 ≤ x) (_h1 : x < 4294967296) : drawlotref01_Put32.f x = word_Put32.f x := by
  unfold drawlotref01_Put32.f word_Put32.f
  rw [Int.tdiv_eq_ediv_of_nonneg h0, Int.tdiv_eq_ediv_of_nonneg h0, Int.tdiv_eq_ediv_of_nonneg h0, Int.tmod_eq_emod_of_nonneg h0]
  congr 2
  · omega
  · congr 1
    · omega
    · congr 1
      · omega
      · congr 1
        omega
end Go.Proofs.Ytkbpdnhbmceajaa.Lm
