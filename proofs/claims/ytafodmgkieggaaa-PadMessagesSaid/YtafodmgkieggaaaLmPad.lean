/- Plain lemmas on padded messages: tails, blocks and whole messages, in the program. No conditions. -/
import Derived.Test.YtafodmgkieggaaaPDx1
import Derived.Lib.Bytes
import Derived.Test.YtafodmgkieggaaaLmBase
namespace Go.Proofs.Ytafodmgkieggaaa.Lm
open Go.RowKit Go.Proofs.Ytafodmgkieggaaa.PD Go.Proofs.YtafodmgkieggaaaW.PrintWords Go.Proofs.YtafodmgkieggaaaW.PrintLast Go.Proofs.YtafodmgkieggaaaW.PrintMore

def be8 (x : Int) : List Int := [x / 72057594037927936 % 256, x / 281474976710656 % 256, x / 1099511627776 % 256, x / 4294967296 % 256, x / 16777216 % 256, x / 65536 % 256, x / 256 % 256, x % 256]
theorem be8_len (x : Int) : (be8 x).length = 8 := rfl
theorem be8_byte (x : Int) : ∀ y ∈ be8 x, 0 ≤ y ∧ y < 256 := by
  intro y hy
  simp only [be8, List.mem_cons, List.mem_nil_iff, or_false] at hy
  rcases hy with h | h | h | h | h | h | h | h <;> subst h <;> omega
theorem pput64_step (k : Nat) (x : Int) (i : Nat) (l : List Int) (hi : i < 8) : word_Put64.l0 (k + 1) x i l = word_Put64.l0 k x ((i + 1 : Nat) : Int) (Ar.set 8 l i (x / 2 ^ (8 * (7 - i)) % 256)) := by
  have e1 : wrap64 (7 - (i : Int)) = 7 - i := w64_id (by omega) (by omega)
  have e2 : wrap64 (8 * (7 - (i : Int))) = 8 * (7 - i) := w64_id (by omega) (by omega)
  have e3 : IntKind.u64.wrap (8 * (7 - (i : Int))) = 8 * (7 - i) := u64w_id (by omega) (by omega)
  have e4 : wrap64 ((i : Int) + 1) = ((i + 1 : Nat) : Int) := by rw [w64_id (by omega) (by omega)]; omega
  have e5 : shr .u64 x (8 * (7 - (i : Int))) = x / 2 ^ (8 * (7 - i)) := by
    unfold shr
    rw [show (8 * (7 - (i : Int))).toNat = 8 * (7 - i) by omega, Nat.min_eq_left (show 8 * (7 - i) ≤ IntKind.u64.bits by show _ ≤ 64; omega)]
  rw [word_Put64.l0, if_pos (by omega), e1, e2, e3, if_pos (by omega), if_pos (by omega), e4, e5]
theorem pput64_ok (k : Nat) (hk : 9 ≤ k) (x : Int) : word_Put64.f k x = some (be8 x) := by
  obtain ⟨k, rfl⟩ : ∃ m, k = m + 9 := ⟨k - 9, by omega⟩
  unfold word_Put64.f be8
  have s := fun k i l hi => pput64_step k x i l hi
  rw [show ((0 : Int)) = ((0 : Nat) : Int) from rfl, s _ 0 _ (by decide), s _ 1 _ (by decide), s _ 2 _ (by decide), s _ 3 _ (by decide), s _ 4 _ (by decide), s _ 5 _ (by decide), s _ 6 _ (by decide), s _ 7 _ (by decide), word_Put64.l0, if_neg (by decide)]
  simp [Ar.set, Ar.fit, List.set]
theorem pblocks_ok (a : Int) (h0 : 0 ≤ a) (_h1 : a < 18446744073709551616) : pad_Blocks.f a = some (if a ≥ 2305843009213693952 then 0 else (a + 72) / 64) := by
  unfold pad_Blocks.f
  by_cases h : a ≥ 2305843009213693952
  · rw [if_pos h, if_pos h]
  · rw [if_neg h, if_neg h, u64w_id (x := a + 8) (by omega) (by omega), u64w_id (x := a + 8 + 64) (by omega) (by omega), Int.tdiv_eq_ediv_of_nonneg (by omega), u64w_id (by omega) (by omega), show a + 8 + 64 = a + 72 by omega]
/-- How many zeros stand between the mark and the length. -/
def zerosF (r : Nat) : Nat := if r ≤ 55 then 55 - r else 119 - r
def tailF (l : List Int) (n : Int) : List Int := l ++ 128 :: (List.replicate (zerosF l.length) 0 ++ be8 (IntKind.u64.wrap (n * 8)))
theorem pad_list (l : List Int) (S z : Nat) (h : S = l.length + 1 + z + 8) (x : List Int) (hx : x.length = 8) : ((l ++ List.replicate (S - l.length) 0).set l.length 128).take (S - 8) ++ Ar.fit 8 x = l ++ 128 :: (List.replicate z 0 ++ x) := by
  subst h
  rw [Ar.fit_id hx, show l.length + 1 + z + 8 - l.length = (z + 8) + 1 by omega, List.replicate_succ, List.set_append_right _ _ (Nat.le_refl _), Nat.sub_self, List.set_cons_zero, show l.length + 1 + z + 8 - 8 = l.length + (z + 1) by omega, List.take_append, List.take_of_length_le (by omega), show l.length + (z + 1) - l.length = z + 1 by omega, List.take_succ_cons, List.take_replicate, Nat.min_eq_left (by omega)]
  simp
theorem ptail_ok (k : Nat) (hk : 9 ≤ k) (l : List Int) (n : Int) (h0 : 0 ≤ n) (h1 : n < 18446744073709551616) (hl : l.length < 9223372036854775807) : pad_Tail.f k l n = some (if n ≥ 2305843009213693952 ∨ (l.length : Int) ≠ n % 64 then ([], false) else (tailF l n, true)) := by
  unfold pad_Tail.f
  by_cases h : n ≥ 2305843009213693952
  · rw [if_pos h, if_pos (Or.inl h)]
  · rw [if_neg h, u64w_id (x := (l.length : Int)) (by omega) (by omega), Int.tmod_eq_emod_of_nonneg h0]
    by_cases hr : (l.length : Int) = n % 64
    · rw [if_pos hr, if_neg (by simp; omega), pblocks_ok n h0 h1, bs, pput64_ok k hk, bs, if_neg h, Int.tdiv_eq_ediv_of_nonneg h0, u64w_id (x := n / 64) (by omega) (by omega), u64w_id (x := (n + 72) / 64 - n / 64) (by omega) (by omega), w64_id (x := (n + 72) / 64 - n / 64) (by omega) (by omega), w64_id (x := ((n + 72) / 64 - n / 64) * 64) (by omega) (by omega), if_pos (by omega)]
      rw [pad_list l _ (zerosF l.length) (by unfold zerosF; split <;> omega) _ (be8_len _)]
      rfl
    · rw [if_neg hr, if_pos (Or.inr hr)]
/-- The first m blocks. -/
def cutF : Nat → List Int → List (List Int)
  | 0, _ => []
  | m + 1, b => b.take 64 :: cutF m (b.drop 64)
theorem cutF_len : ∀ (m : Nat) (b : List Int), (cutF m b).length = m
  | 0, _ => rfl
  | m + 1, b => by rw [cutF, List.length_cons, cutF_len]
theorem pcut_loop : ∀ (m k : Nat) (b : List Int) (out : List (List Int)), b.length / 64 = m → m < k → out.length + m < 1048576 → pad_Cut.l0 k b out = some (out ++ cutF m b, b.drop (64 * m))
  | 0, k + 1, b, out, h, _, _ => by
    rw [pad_Cut.l0, if_neg (by omega)]
    simp [cutF]
  | m + 1, k + 1, b, out, h, hk, ho => by
    rw [pad_Cut.l0, if_pos (by omega), if_pos (by omega), pcut_loop m k (b.drop 64) (out ++ [b.take 64]) (by rw [List.length_drop]; omega) (by omega) (by simp; omega), cutF, List.drop_drop, show 64 + 64 * m = 64 * (m + 1) by omega]
    simp
theorem pcut_ok (k : Nat) (l : List Int) (hk : l.length / 64 < k) (hl : l.length < 1000000) : pad_Cut.f k l = some (cutF (l.length / 64) l, l.drop (64 * (l.length / 64))) := by
  unfold pad_Cut.f
  rw [pcut_loop (l.length / 64) k l [] rfl hk (by simp; omega)]
  simp
theorem andnot63 : ∀ n : Fin 2001, Go.bits .andNot .i64 ((n.val : Nat) : Int) 63 = ((n.val : Nat) : Int) - ((n.val : Nat) : Int) % 64 := by decide +kernel
/-- A whole message, padded. -/
def padF (l : List Int) : List Int := l ++ 128 :: (List.replicate (zerosF (l.length % 64)) 0 ++ be8 (l.length * 8))
theorem ppad_ok (k : Nat) (hk : 9 ≤ k) (l : List Int) (hl : l.length ≤ 2000) : pad_Pad.f k l = some (padF l) := by
  have e : Go.bits .andNot .i64 (l.length : Int) 63 = (l.length : Int) - (l.length : Int) % 64 := andnot63 ⟨l.length, by omega⟩
  unfold pad_Pad.f
  have hd : (l.drop ((l.length : Int) - (l.length : Int) % 64).toNat).length = l.length % 64 := by rw [List.length_drop]; omega
  have ht : pad_Tail.f k (l.drop ((l.length : Int) - (l.length : Int) % 64).toNat) (l.length : Int) = some (tailF (l.drop ((l.length : Int) - (l.length : Int) % 64).toNat) (l.length : Int), true) := by
    rw [ptail_ok k hk _ _ (by omega) (by omega) (by omega), if_neg]
    rw [hd]; omega
  rw [e, if_pos ⟨by omega, by omega, by omega⟩, u64w_id (x := (l.length : Int)) (by omega) (by omega), ht, bs, if_pos (by
    unfold tailF zerosF
    simp only [List.length_append, List.length_cons, List.length_replicate, be8_len, hd]
    split <;> omega)]
  unfold tailF padF
  rw [hd, ← List.append_assoc, List.take_append_drop, u64w_id (by omega) (by omega)]
theorem padF_len (l : List Int) : ((padF l).length : Int) = 64 * (((l.length : Int) + 72) / 64) := by
  unfold padF zerosF
  simp only [List.length_append, List.length_cons, List.length_replicate, be8_len]
  split <;> omega
theorem padF_byte {l : List Int} (h : ∀ x ∈ l, 0 ≤ x ∧ x < 256) : ∀ x ∈ padF l, 0 ≤ x ∧ x < 256 := by
  intro x hx
  unfold padF at hx
  rcases List.mem_append.1 hx with h1 | h1
  · exact h x h1
  · rcases List.mem_cons.1 h1 with h2 | h2
    · subst h2; omega
    · rcases List.mem_append.1 h2 with h3 | h3
      · have := List.eq_of_mem_replicate h3
        omega
      · exact be8_byte _ x h3
theorem padF_inj {b c : List Int} (hb : b.length ≤ 2000) (hc : c.length ≤ 2000) (h : padF b = padF c) : b = c := by
  unfold padF at h
  rw [← List.cons_append, ← List.cons_append, ← List.append_assoc, ← List.append_assoc] at h
  obtain ⟨h1, h2⟩ := List.append_inj' h rfl
  have hn : b.length = c.length := by
    simp only [be8, List.cons.injEq] at h2
    omega
  exact (List.append_inj h1 hn).1
theorem bytes_inj : ∀ (a b : List Int), (∀ x ∈ a, 0 ≤ x ∧ x < 256) → (∀ x ∈ b, 0 ≤ x ∧ x < 256) → (strOfNums a).toList = (strOfNums b).toList → a = b := by
  intro a b ha hb h
  rw [Lib.strOfNums_toList, Lib.strOfNums_toList] at h
  unfold Lib.bytesOf at h
  induction a generalizing b with
  | nil => cases b with
    | nil => rfl
    | cons y b => simp at h
  | cons x a ih => cases b with
    | nil => simp at h
    | cons y b =>
      rw [List.map_cons, List.map_cons, List.cons.injEq] at h
      have hx := ha x (by simp)
      have hy := hb y (by simp)
      have e : x.toNat = y.toNat := by
        have := congrArg UInt8.toNat h.1
        rw [UInt8.toNat_ofNat_of_lt' (by show x.toNat < 256; omega), UInt8.toNat_ofNat_of_lt' (by show y.toNat < 256; omega)] at this
        exact this
      rw [ih b (fun z hz => ha z (by simp [hz])) (fun z hz => hb z (by simp [hz])) h.2, show x = y by omega]
theorem alive02 (k : Nat) (hk : 80 ≤ k) : drawlotlaw02_alive.f k = some true := at_rounds (g := fun k => drawlotlaw02_alive.f k) (fun k => drawlotlaw02_alive.mono k) (k := 80) (k' := k) hk (r := true) (by decide +kernel)
end Go.Proofs.Ytafodmgkieggaaa.Lm
