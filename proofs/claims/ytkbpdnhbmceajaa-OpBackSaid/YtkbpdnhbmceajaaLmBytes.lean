/- Plain lemmas on numbers and their bytes, in the program. No conditions. -/
import Derived.Test.YtkbpdnhbmceajaaPQx1
import Derived.Test.YtkbpdnhbmceajaaLmWord
namespace Go.Proofs.Ytkbpdnhbmceajaa.Lm
open Go.RowKit Go.Proofs.Ytkbpdnhbmceajaa.PQ Go.Proofs.YtkbpdnhbmceajaaW.PrintWords Go.Proofs.YtkbpdnhbmceajaaW.PrintLast Go.Proofs.YtkbpdnhbmceajaaW.PrintMore

theorem put64_step (k : Nat) (x : Int) (i : Nat) (l : List Int) (hi : i < 8) : word_Put64.l0 (k + 1) x i l = word_Put64.l0 k x ((i + 1 : Nat) : Int) (Ar.set 8 l i (x / 2 ^ (8 * (7 - i)) % 256)) := by
  have e1 : wrap64 (7 - (i : Int)) = 7 - i := w64_id (by omega) (by omega)
  have e2 : wrap64 (8 * (7 - (i : Int))) = 8 * (7 - i) := w64_id (by omega) (by omega)
  have e3 : IntKind.u64.wrap (8 * (7 - (i : Int))) = 8 * (7 - i) := u64w_id (by omega) (by omega)
  have e4 : wrap64 ((i : Int) + 1) = ((i + 1 : Nat) : Int) := by rw [w64_id (by omega) (by omega)]; omega
  have e5 : shr .u64 x (8 * (7 - (i : Int))) = x / 2 ^ (8 * (7 - i)) := by
    unfold shr
    rw [show (8 * (7 - (i : Int))).toNat = 8 * (7 - i) by omega, Nat.min_eq_left (show 8 * (7 - i) ≤ IntKind.u64.bits by show _ ≤ 64; omega)]
  rw [word_Put64.l0, if_pos (by omega), e1, e2, e3, if_pos (by omega), if_pos (by omega), e4, e5]
theorem put64_ok (k : Nat) (hk : 9 ≤ k) (x : Int) : word_Put64.f k x = some [x / 72057594037927936 % 256, x / 281474976710656 % 256, x / 1099511627776 % 256, x / 4294967296 % 256, x / 16777216 % 256, x / 65536 % 256, x / 256 % 256, x % 256] := by
  obtain ⟨k, rfl⟩ : ∃ m, k = m + 9 := ⟨k - 9, by omega⟩
  unfold word_Put64.f
  have s := fun k i l hi => put64_step k x i l hi
  rw [show ((0 : Int)) = ((0 : Nat) : Int) from rfl, s _ 0 _ (by decide), s _ 1 _ (by decide), s _ 2 _ (by decide), s _ 3 _ (by decide), s _ 4 _ (by decide), s _ 5 _ (by decide), s _ 6 _ (by decide), s _ 7 _ (by decide), word_Put64.l0, if_neg (by decide)]
  simp [Ar.set, Ar.fit, List.set]
theorem get64_step (k : Nat) (acc : Int) (l : List Int) (i : Nat) (hi : i < 8) (ha0 : 0 ≤ acc) (ha1 : acc < 256 ^ i) (hb : 0 ≤ Ar.get 8 l i ∧ Ar.get 8 l i < 256) : word_Get64.l0 (k + 1) acc l i = word_Get64.l0 k (acc * 256 + Ar.get 8 l i) l ((i + 1 : Nat) : Int) := by
  have e4 : wrap64 ((i : Int) + 1) = ((i + 1 : Nat) : Int) := by rw [w64_id (by omega) (by omega)]; omega
  have hlt : acc < 72057594037927936 := by
    rcases (show i = 0 ∨ i = 1 ∨ i = 2 ∨ i = 3 ∨ i = 4 ∨ i = 5 ∨ i = 6 ∨ i = 7 by omega) with rfl | rfl | rfl | rfl | rfl | rfl | rfl | rfl <;> simp at ha1 <;> omega
  have e1 : IntKind.u64.wrap (acc * 256) = acc * 256 := u64w_id (by omega) (by omega)
  have e2 : IntKind.u64.wrap (Ar.get 8 l i) = Ar.get 8 l i := u64w_id (by omega) (by omega)
  have e3 : bits .or .u64 (acc * 256) (Ar.get 8 l i) = acc * 256 + Ar.get 8 l i :=
    bits_join .u64 64 (by decide) (fun n a b => u64w_id a (by have : (2 : Int) ^ 64 = 18446744073709551616 := rfl; omega)) 8 _ _ (by omega) (by show acc * 256 % 256 = 0; omega) (by have : (2 : Int) ^ 64 = 18446744073709551616 := rfl; omega) hb.1 hb.2 (by have : (2 : Int) ^ 64 = 18446744073709551616 := rfl; omega)
  rw [word_Get64.l0, if_pos (by omega), if_pos (by omega), e1, e2, e3, e4]
theorem get64_ok (k : Nat) (hk : 9 ≤ k) (b0 b1 b2 b3 b4 b5 b6 b7 : Int) (h : ∀ b ∈ [b0, b1, b2, b3, b4, b5, b6, b7], 0 ≤ b ∧ b < 256) :
    word_Get64.f k [b0, b1, b2, b3, b4, b5, b6, b7] = some (((((((b0 * 256 + b1) * 256 + b2) * 256 + b3) * 256 + b4) * 256 + b5) * 256 + b6) * 256 + b7) := by
  obtain ⟨k, rfl⟩ : ∃ m, k = m + 9 := ⟨k - 9, by omega⟩
  simp only [List.mem_cons, List.not_mem_nil, or_false, forall_eq_or_imp, forall_eq] at h
  obtain ⟨h0, h1, h2, h3, h4, h5, h6, h7⟩ := h
  unfold word_Get64.f
  have s := fun k acc i hi => get64_step k acc [b0, b1, b2, b3, b4, b5, b6, b7] i hi
  have p : ∀ n : Nat, ((256 : Int) ^ (n + 1)) = 256 ^ n * 256 := fun n => Int.pow_succ 256 n
  rw [show ((0 : Int)) = ((0 : Nat) : Int) from rfl]
  rw [s _ _ 0 (by decide) (by decide) (by decide) h0]
  have z : ((0 : Nat) : Int) * 256 + Ar.get 8 [b0, b1, b2, b3, b4, b5, b6, b7] (0 : Nat) = b0 := by show (0 : Int) * 256 + b0 = b0; omega
  rw [z]
  rw [s _ _ 1 (by decide) (by omega) (by show b0 < 256; omega) h1]
  show word_Get64.l0 _ (b0 * 256 + b1) _ _ = _
  rw [s _ _ 2 (by decide) (by omega) (by show _ < (65536 : Int); omega) h2]
  show word_Get64.l0 _ ((b0 * 256 + b1) * 256 + b2) _ _ = _
  rw [s _ _ 3 (by decide) (by omega) (by show _ < (16777216 : Int); omega) h3]
  show word_Get64.l0 _ (((b0 * 256 + b1) * 256 + b2) * 256 + b3) _ _ = _
  rw [s _ _ 4 (by decide) (by omega) (by show _ < (4294967296 : Int); omega) h4]
  show word_Get64.l0 _ ((((b0 * 256 + b1) * 256 + b2) * 256 + b3) * 256 + b4) _ _ = _
  rw [s _ _ 5 (by decide) (by omega) (by show _ < (1099511627776 : Int); omega) h5]
  show word_Get64.l0 _ (((((b0 * 256 + b1) * 256 + b2) * 256 + b3) * 256 + b4) * 256 + b5) _ _ = _
  rw [s _ _ 6 (by decide) (by omega) (by show _ < (281474976710656 : Int); omega) h6]
  show word_Get64.l0 _ ((((((b0 * 256 + b1) * 256 + b2) * 256 + b3) * 256 + b4) * 256 + b5) * 256 + b6) _ _ = _
  rw [s _ _ 7 (by decide) (by omega) (by show _ < (72057594037927936 : Int); omega) h7]
  show word_Get64.l0 _ (((((((b0 * 256 + b1) * 256 + b2) * 256 + b3) * 256 + b4) * 256 + b5) * 256 + b6) * 256 + b7) _ _ = _
  rw [word_Get64.l0, if_neg (by decide)]
theorem get32_step (k : Nat) (acc : Int) (l : List Int) (i : Nat) (hi : i < 4) (ha0 : 0 ≤ acc) (ha1 : acc < 256 ^ i) (hb : 0 ≤ Ar.get 4 l i ∧ Ar.get 4 l i < 256) : word_Get32.l0 (k + 1) acc l i = word_Get32.l0 k (acc * 256 + Ar.get 4 l i) l ((i + 1 : Nat) : Int) := by
  have e4 : wrap64 ((i : Int) + 1) = ((i + 1 : Nat) : Int) := by rw [w64_id (by omega) (by omega)]; omega
  have hlt : acc < 16777216 := by
    rcases (show i = 0 ∨ i = 1 ∨ i = 2 ∨ i = 3 by omega) with rfl | rfl | rfl | rfl <;> simp at ha1 <;> omega
  have e1 : acc * 256 % 4294967296 = acc * 256 := by omega
  have e2 : Ar.get 4 l i % 4294967296 = Ar.get 4 l i := by omega
  have e3 : bits .or .u32 (acc * 256) (Ar.get 4 l i) = acc * 256 + Ar.get 4 l i :=
    bits_join .u32 32 (by decide) wraps_u32 8 _ _ (by omega) (by show acc * 256 % 256 = 0; omega) (by have : (2 : Int) ^ 32 = 4294967296 := rfl; omega) hb.1 hb.2 (by have : (2 : Int) ^ 32 = 4294967296 := rfl; omega)
  rw [word_Get32.l0, if_pos (by omega), if_pos (by omega), e1, e2, e3, e4]
theorem get32_ok (k : Nat) (hk : 5 ≤ k) (b0 b1 b2 b3 : Int) (h : ∀ b ∈ [b0, b1, b2, b3], 0 ≤ b ∧ b < 256) : word_Get32.f k [b0, b1, b2, b3] = some (((b0 * 256 + b1) * 256 + b2) * 256 + b3) := by
  obtain ⟨k, rfl⟩ : ∃ m, k = m + 5 := ⟨k - 5, by omega⟩
  simp only [List.mem_cons, List.not_mem_nil, or_false, forall_eq_or_imp, forall_eq] at h
  obtain ⟨h0, h1, h2, h3⟩ := h
  unfold word_Get32.f
  have s := fun k acc i hi => get32_step k acc [b0, b1, b2, b3] i hi
  rw [show ((0 : Int)) = ((0 : Nat) : Int) from rfl]
  rw [s _ _ 0 (by decide) (by decide) (by decide) h0]
  have z : ((0 : Nat) : Int) * 256 + Ar.get 4 [b0, b1, b2, b3] (0 : Nat) = b0 := by show (0 : Int) * 256 + b0 = b0; omega
  rw [z]
  rw [s _ _ 1 (by decide) (by omega) (by show b0 < 256; omega) h1]
  show word_Get32.l0 _ (b0 * 256 + b1) _ _ = _
  rw [s _ _ 2 (by decide) (by omega) (by show _ < (65536 : Int); omega) h2]
  show word_Get32.l0 _ ((b0 * 256 + b1) * 256 + b2) _ _ = _
  rw [s _ _ 3 (by decide) (by omega) (by show _ < (16777216 : Int); omega) h3]
  show word_Get32.l0 _ (((b0 * 256 + b1) * 256 + b2) * 256 + b3) _ _ = _
  rw [word_Get32.l0, if_neg (by decide)]
end Go.Proofs.Ytkbpdnhbmceajaa.Lm
