/- Proved here: LawShaWrites, the statement of the row that this text's last part names, and all that it rests on: words on walks, contracts of the program's functions, plain lemmas. Conditions: none but those of the given row. (part 7 of 7) -/
import Derived.Test.YtkcdcbiobkcpmaaDoorZW5
import Derived.Test.YtkcdcbiobkcpmaaDoorRows
import Derived.Test.YtkcdcbiobkcpmaaDoorTie
import Derived.Test.YtkcdcbiobkcpmaaDoorCards
section
namespace Go.Proofs.YtkcdcbiobkcpmaaDoor.Lm
open Go.RowKit Go.Proofs.YtkcdcbiobkcpmaaDoor.PA Go.Proofs.YtkcdcbiobkcpmaaDoorW.PrintWords Go.Proofs.YtkcdcbiobkcpmaaDoorW.PrintLast
theorem r03First {x : Int} (h0 : 0 ≤ x) (h1 : x < 4294967296) {k : Nat} (hk : 50 ≤ k) : drawlotref03_First.f k x = some (sig x 7 18 3) := by
  unfold drawlotref03_First.f
  rw [r01rotate_ok (by omega) h0 h1 (by omega) (by omega), bs, r01rotate_ok (by omega) h0 h1 (by omega) (by omega), bs, r01right_ok (by omega) h0 h1 (by omega) (by omega), bs]
  rfl
theorem r03Second {x : Int} (h0 : 0 ≤ x) (h1 : x < 4294967296) {k : Nat} (hk : 50 ≤ k) : drawlotref03_Second.f k x = some (sig x 17 19 10) := by
  unfold drawlotref03_Second.f
  rw [r01rotate_ok (by omega) h0 h1 (by omega) (by omega), bs, r01rotate_ok (by omega) h0 h1 (by omega) (by omega), bs, r01right_ok (by omega) h0 h1 (by omega) (by omega), bs]
  rfl
theorem r03of1 (b : List Int) : ∀ (d k i : Nat) (w : List Int), 16 ≤ i → i + d = 64 → d + 60 ≤ k → InR 64 4294967296 w → (∀ j : Int, 0 ≤ j → j < i → Lm.Good b w j) →
    ∃ w', drawlotref03_Of.l1 k i w = some w' ∧ ∀ j : Int, 0 ≤ j → j < 64 → Lm.Good b w' j
  | 0, k, i, w, h16, hi, hk, hw, hg => by
    obtain ⟨k, rfl⟩ : ∃ m, k = m + 1 := ⟨k - 1, by omega⟩
    refine ⟨w, ?_, fun j h0 h1 => hg j h0 (by omega)⟩
    simp only [drawlotref03_Of.l1]
    rw [if_neg (by omega)]
  | d + 1, k, i, w, h16, hi, hk, hw, hg => by
    obtain ⟨k, rfl⟩ : ∃ m, k = m + 1 := ⟨k - 1, by omega⟩
    have e1 : wrap64 ((i : Int) + 1) = ((i + 1 : Nat) : Int) := by rw [w64_id (by omega) (by omega)]; omega
    have e2 : wrap64 ((i : Int) - 2) = i - 2 := w64_id (by omega) (by omega)
    have e7 : wrap64 ((i : Int) - 7) = i - 7 := w64_id (by omega) (by omega)
    have e15 : wrap64 ((i : Int) - 15) = i - 15 := w64_id (by omega) (by omega)
    have e16 : wrap64 ((i : Int) - 16) = i - 16 := w64_id (by omega) (by omega)
    have hn : 0 ≤ next w i ∧ next w i < 4294967296 := by unfold next; omega
    obtain ⟨w', h', hg'⟩ := r03of1 b d k (i + 1) (Ar.set 64 w i (next w i)) (by omega) (by omega) (by omega) (hw.set (by omega) (by omega) hn) (fun j h0 h1 => by
      by_cases hji : j = i
      · subst hji
        refine ⟨fun h => by omega, fun _ => ?_⟩
        rw [get_set (by omega) (by omega) (by omega), if_pos rfl, next_keep (by omega) (by omega) (by omega) (by omega)]
      · exact (hg j h0 (by omega)).keep (by omega) (by omega) h0 (by omega))
    refine ⟨w', ?_, hg'⟩
    simp only [drawlotref03_Of.l1]
    rw [if_pos (by omega), e2, if_pos (by omega), if_pos (by omega), r03Second (hw _).1 (hw _).2 (by omega), bs, e7, if_pos (by omega), if_pos (by omega), e15, if_pos (by omega), if_pos (by omega), r03First (hw _).1 (hw _).2 (by omega), bs, e16, if_pos (by omega), if_pos (by omega), if_pos (by omega), e1]
    exact h'
theorem r03of0 (b : List Int) (hb : InR 64 256 b) : ∀ (d k i : Nat) (w : List Int), i + d = 16 → d + 120 ≤ k → InR 64 4294967296 w → (∀ j : Int, 0 ≤ j → j < i → Lm.Good b w j) →
    ∃ w', drawlotref03_Of.l0 k i b w = some w' ∧ ∀ j : Int, 0 ≤ j → j < 64 → Lm.Good b w' j
  | 0, k, i, w, hi, hk, hw, hg => by
    obtain ⟨k, rfl⟩ : ∃ m, k = m + 1 := ⟨k - 1, by omega⟩
    simp only [drawlotref03_Of.l0]
    rw [if_neg (by omega)]
    exact r03of1 b 48 k 16 w (by omega) (by omega) (by omega) hw (fun j h0 h1 => hg j h0 (by omega))
  | d + 1, k, i, w, hi, hk, hw, hg => by
    obtain ⟨k, rfl⟩ : ∃ m, k = m + 1 := ⟨k - 1, by omega⟩
    have e4 : wrap64 (4 * (i : Int)) = 4 * i := w64_id (by omega) (by omega)
    have e41 : wrap64 (4 * (i : Int) + 1) = 4 * i + 1 := w64_id (by omega) (by omega)
    have e42 : wrap64 (4 * (i : Int) + 2) = 4 * i + 2 := w64_id (by omega) (by omega)
    have e43 : wrap64 (4 * (i : Int) + 3) = 4 * i + 3 := w64_id (by omega) (by omega)
    have e1 : wrap64 ((i : Int) + 1) = ((i + 1 : Nat) : Int) := by rw [w64_id (by omega) (by omega)]; omega
    have h32 : drawlotref01_Get32.f k [Ar.get 64 b (4 * (i : Int)), Ar.get 64 b (4 * (i : Int) + 1), Ar.get 64 b (4 * (i : Int) + 2), Ar.get 64 b (4 * (i : Int) + 3)] = some (word4 b i) := by
      rw [r01get32_ok k (by omega) _ _ _ _ (by simp only [List.mem_cons, List.not_mem_nil, or_false, forall_eq_or_imp, forall_eq]; exact ⟨hb _, hb _, hb _, hb _⟩)]
      rfl
    obtain ⟨w', h', hg'⟩ := r03of0 b hb d k (i + 1) (Ar.set 64 w i (word4 b i)) (by omega) (by omega) (hw.set (by omega) (by omega) (word4_range hb i)) (fun j h0 h1 => by
      by_cases hji : j = i
      · subst hji
        refine ⟨fun _ => ?_, fun h => by omega⟩
        rw [get_set (by omega) (by omega) (by omega), if_pos rfl]
      · exact (hg j h0 (by omega)).keep (by omega) (by omega) h0 (by omega))
    refine ⟨w', ?_, hg'⟩
    simp only [drawlotref03_Of.l0]
    rw [if_pos (by omega), e4, if_pos (by omega), if_pos (by omega), e41, if_pos (by omega), if_pos (by omega), e42, if_pos (by omega), if_pos (by omega), e43, if_pos (by omega), if_pos (by omega), h32, bs, if_pos (by omega), if_pos (by omega), e1]
    exact h'
theorem plans_same {b w v : List Int} (hw : ∀ j : Int, 0 ≤ j → j < 64 → Lm.Good b w j) (hv : ∀ j : Int, 0 ≤ j → j < 64 → Lm.Good b v j) : ∀ (n : Nat) (j : Int), j < n → 0 ≤ j → j < 64 → Ar.get 64 w j = Ar.get 64 v j
  | 0, j, hn, h0, h1 => by omega
  | n + 1, j, hn, h0, h1 => by
    by_cases hc : j < 16
    · rw [(hw j h0 h1).1 hc, (hv j h0 h1).1 hc]
    · rw [(hw j h0 h1).2 (by omega), (hv j h0 h1).2 (by omega)]
      unfold next
      have ih := fun i (a : i < (n : Int)) (b : 0 ≤ i) (c : i < 64) => plans_same hw hv n i a b c
      rw [ih (j - 2) (by omega) (by omega) (by omega), ih (j - 7) (by omega) (by omega) (by omega), ih (j - 15) (by omega) (by omega) (by omega), ih (j - 16) (by omega) (by omega) (by omega)]
theorem turned_ok {x : Int} (h0 : 0 ≤ x) (h1 : x < 4294967296) {k : Nat} (hk : 50 ≤ k) (a b c : Nat) (ha : a < 32) (hb : b < 32) (hc : c < 32) : drawlotref04_turned.f k x a b c = some (rot3 x a b c) := by
  unfold drawlotref04_turned.f
  rw [r01rotate_ok (by omega) h0 h1 (by omega) (by omega), bs, r01rotate_ok (by omega) h0 h1 (by omega) (by omega), bs, r01rotate_ok (by omega) h0 h1 (by omega) (by omega), bs, show ((a : Int) % 32).toNat = a by omega, show ((b : Int) % 32).toNat = b by omega, show ((c : Int) % 32).toNat = c by omega]
  rfl
theorem r04Round {s : List Int} (hs : InR 8 4294967296 s) (w k : Int) {n : Nat} (hn : 50 ≤ n) : drawlotref04_Round.f n s w k = some (rnd s w k) := by
  unfold drawlotref04_Round.f
  have t1 := turned_ok (hs 4).1 (hs 4).2 hn 6 11 25 (by decide) (by decide) (by decide)
  have t2 := turned_ok (hs 0).1 (hs 0).2 hn 2 13 22 (by decide) (by decide) (by decide)
  rw [show drawlotref04_turned.f n (Ar.get 8 s 4) 6 11 25 = _ from t1, bs, show drawlotref04_choice.f (Ar.get 8 s 4) (Ar.get 8 s 5) (Ar.get 8 s 6) = some (chF (Ar.get 8 s 4) (Ar.get 8 s 5) (Ar.get 8 s 6)) from rfl, bs,
    show drawlotref04_turned.f n (Ar.get 8 s 0) 2 13 22 = _ from t2, bs, show drawlotref04_majority.f (Ar.get 8 s 0) (Ar.get 8 s 1) (Ar.get 8 s 2) = some (majF (Ar.get 8 s 0) (Ar.get 8 s 1) (Ar.get 8 s 2)) from rfl, bs]
  have e : ((((Ar.get 8 s 7 + rot3 (Ar.get 8 s 4) 6 11 25) % 4294967296 + chF (Ar.get 8 s 4) (Ar.get 8 s 5) (Ar.get 8 s 6)) % 4294967296 + k) % 4294967296 + w) % 4294967296 = tee s w k := by
    unfold tee lowF
    omega
  rw [e]
  rfl
def Cs : List Int := (comp_constants.f).getD []
theorem constants_ok : comp_constants.f = some Cs := rfl
theorem r04Constant {i : Int} (h0 : 0 ≤ i) (h1 : i < 64) : drawlotref04_Constant.f i = some (Ar.get 64 Cs i) := by
  unfold drawlotref04_Constant.f
  rw [if_neg (by omega), if_neg (by omega), if_pos (by omega), if_pos (by omega)]
  rfl
theorem take_end (a : List Int) : ∀ (d k i : Nat) (x : List Int), i + d = 8 → d < k → InR 8 4294967296 x → ∃ r, comp_Take.l1 k i a x = some r ∧ drawlotref04_Take.l1 k i a x = some r ∧ InR 8 4294967296 r
  | 0, k, i, x, hi, hk, hx => by
    obtain ⟨k, rfl⟩ : ∃ m, k = m + 1 := ⟨k - 1, by omega⟩
    refine ⟨x, ?_, ?_, hx⟩
    · simp only [comp_Take.l1]
      rw [if_neg (by omega)]
    · simp only [drawlotref04_Take.l1]
      rw [if_neg (by omega)]
  | d + 1, k, i, x, hi, hk, hx => by
    obtain ⟨k, rfl⟩ : ∃ m, k = m + 1 := ⟨k - 1, by omega⟩
    have e1 : wrap64 ((i : Int) + 1) = ((i + 1 : Nat) : Int) := by rw [w64_id (by omega) (by omega)]; omega
    obtain ⟨r, h1, h2, h3⟩ := take_end a d k (i + 1) (Ar.set 8 x i ((Ar.get 8 x i + Ar.get 8 a i) % 4294967296)) (by omega) (by omega) (hx.set (by omega) (by omega) (by omega))
    refine ⟨r, ?_, ?_, h3⟩
    · simp only [comp_Take.l1]
      rw [if_pos (by omega), if_pos (by omega), e1]
      exact h1
    · simp only [drawlotref04_Take.l1]
      rw [if_pos (by omega), if_pos (by omega), e1]
      exact h2
theorem take_loop (a w v : List Int) (hwv : ∀ j : Int, 0 ≤ j → j < 64 → Ar.get 64 w j = Ar.get 64 v j) : ∀ (d k i : Nat) (x : List Int), i + d = 64 → d + 60 ≤ k → InR 8 4294967296 x → ∃ r, comp_Take.l0 k w i a x Cs = some r ∧ drawlotref04_Take.l0 k i a v x = some r ∧ InR 8 4294967296 r
  | 0, k, i, x, hi, hk, hx => by
    obtain ⟨k, rfl⟩ : ∃ m, k = m + 1 := ⟨k - 1, by omega⟩
    obtain ⟨r, h1, h2, h3⟩ := take_end a 8 k 0 x (by omega) (by omega) hx
    refine ⟨r, ?_, ?_, h3⟩
    · simp only [comp_Take.l0]
      rw [if_neg (by omega)]
      exact h1
    · simp only [drawlotref04_Take.l0]
      rw [if_neg (by omega)]
      exact h2
  | d + 1, k, i, x, hi, hk, hx => by
    obtain ⟨k, rfl⟩ : ∃ m, k = m + 1 := ⟨k - 1, by omega⟩
    have e1 : wrap64 ((i : Int) + 1) = ((i + 1 : Nat) : Int) := by rw [w64_id (by omega) (by omega)]; omega
    obtain ⟨r, h1, h2, h3⟩ := take_loop a w v hwv d k (i + 1) (rnd x (Ar.get 64 w i) (Ar.get 64 Cs i)) (by omega) (by omega) (rnd_in hx _ _)
    refine ⟨r, ?_, ?_, h3⟩
    · simp only [comp_Take.l0]
      rw [if_pos (by omega), if_pos (by omega), Round_ok hx, bs, e1]
      exact h1
    · simp only [drawlotref04_Take.l0]
      rw [if_pos (by omega), if_pos (by omega), r04Constant (by omega) (by omega), bs, ← hwv i (by omega) (by omega), r04Round hx _ _ (by omega), bs, e1]
      exact h2
def tk (s b : List Int) : List Int := (comp_Take.f 200 s b).getD []
theorem tk_ok {s b : List Int} (hs : InR 8 4294967296 s) (hb : InR 64 256 b) {n : Nat} (hn : 200 ≤ n) : comp_Take.f n s b = some (tk s b) ∧ drawlotref04_Take.f n s b = some (tk s b) ∧ InR 8 4294967296 (tk s b) := by
  obtain ⟨w, ew, _, hw⟩ := Of_ok hb (k := 200) (by omega)
  obtain ⟨v, ev, hv⟩ := r03of0 b hb 16 200 0 _ (by omega) (by omega) (InR.zero 64 (by decide)) (fun j h0 h1 => by omega)
  obtain ⟨r, h1, h2, h3⟩ := take_loop s w v (fun j h0 h1 => plans_same hw hv 64 j (by omega) h0 h1) 64 200 0 s (by omega) (by omega) hs
  have t1 : comp_Take.f 200 s b = some r := by
    unfold comp_Take.f
    rw [constants_ok, bs, ew, bs]
    exact h1
  have t2 : drawlotref04_Take.f 200 s b = some r := by
    unfold drawlotref04_Take.f
    rw [show drawlotref03_Of.f 200 b = some v from ev, bs]
    exact h2
  have e : tk s b = r := by unfold tk; rw [t1]; rfl
  rw [e]
  exact ⟨at_rounds (g := fun k => comp_Take.f k s b) (fun k => comp_Take.mono s b k) (k := 200) (k' := n) hn t1, at_rounds (g := fun k => drawlotref04_Take.f k s b) (fun k => drawlotref04_Take.mono s b k) (k := 200) (k' := n) hn t2, h3⟩
end Go.Proofs.YtkcdcbiobkcpmaaDoor.Lm
end
section
namespace Go.Proofs.YtkcdcbiobkcpmaaDoor.Lm
open Go.RowKit Go.Proofs.YtkcdcbiobkcpmaaDoor.PA Go.Proofs.YtkcdcbiobkcpmaaDoorW.PrintWords Go.Proofs.YtkcdcbiobkcpmaaDoorW.PrintLast Go.Proofs.YtkcdcbiobkcpmaaDoorW.PrintMore
def be8 (x : Int) : List Int := [x / 72057594037927936 % 256, x / 281474976710656 % 256, x / 1099511627776 % 256, x / 4294967296 % 256, x / 16777216 % 256, x / 65536 % 256, x / 256 % 256, x % 256]
theorem be8_len (x : Int) : (be8 x).length = 8 := rfl
theorem be8_byte (x : Int) : ∀ y ∈ be8 x, 0 ≤ y ∧ y < 256 := by
  intro y hy
  simp only [be8, List.mem_cons, List.mem_nil_iff, or_false] at hy
  rcases hy with h | h | h | h | h | h | h | h <;> subst h <;> omega
theorem pput64_step (k : Nat) (x : Int) (i : Nat) (l : List Int) (hi : i < 8) : word_Put64.l0 (k + 1) x i l = word_Put64.l0 k x ((i + 1 : Nat) : Int) (Ar.set 8 l i (x / 2 ^ (8 * (7 - i)) % 256)) := by
  have e1 : wrap64 (7 - (i : Int)) = 7 - i := w64_id (by omega) (by omega)
  have e2 : wrap64 (8 * (7 - (i : Int))) = 8 * (7 - i) := w64_id (by omega) (by omega)
  have e3 : IntKind.u64.wrap (8 * (7 - (i : Int))) = 8 * (7 - i) := u64w_id (by omega) (by omega)
  have e4 : wrap64 ((i : Int) + 1) = ((i + 1 : Nat) : Int) := by rw [w64_id (by omega) (by omega)]; omega
  have e5 : shr .u64 x (8 * (7 - (i : Int))) = x / 2 ^ (8 * (7 - i)) := by
    unfold shr
    rw [show (8 * (7 - (i : Int))).toNat = 8 * (7 - i) by omega, Nat.min_eq_left (show 8 * (7 - i) ≤ IntKind.u64.bits by show _ ≤ 64; omega)]
  rw [word_Put64.l0, if_pos (by omega), e1, e2, e3, if_pos (by omega), if_pos (by omega), e4, e5]
theorem pput64_ok (k : Nat) (hk : 9 ≤ k) (x : Int) : word_Put64.f k x = some (be8 x) := by
  obtain ⟨k, rfl⟩ : ∃ m, k = m + 9 := ⟨k - 9, by omega⟩
  unfold word_Put64.f be8
  have s := fun k i l hi => pput64_step k x i l hi
  rw [show ((0 : Int)) = ((0 : Nat) : Int) from rfl, s _ 0 _ (by decide), s _ 1 _ (by decide), s _ 2 _ (by decide), s _ 3 _ (by decide), s _ 4 _ (by decide), s _ 5 _ (by decide), s _ 6 _ (by decide), s _ 7 _ (by decide), word_Put64.l0, if_neg (by decide)]
  simp [Ar.set, Ar.fit, List.set]
theorem pblocks_ok (a : Int) (h0 : 0 ≤ a) (_h1 : a < 18446744073709551616) : pad_Blocks.f a = some (if a ≥ 2305843009213693952 then 0 else (a + 72) / 64) := by
  unfold pad_Blocks.f
  by_cases h : a ≥ 2305843009213693952
  · rw [if_pos h, if_pos h]
  · rw [if_neg h, if_neg h, u64w_id (x := a + 8) (by omega) (by omega), u64w_id (x := a + 8 + 64) (by omega) (by omega), Int.tdiv_eq_ediv_of_nonneg (by omega), u64w_id (by omega) (by omega), show a + 8 + 64 = a + 72 by omega]
def zerosF (r : Nat) : Nat := if r ≤ 55 then 55 - r else 119 - r
def tailF (l : List Int) (n : Int) : List Int := l ++ 128 :: (List.replicate (zerosF l.length) 0 ++ be8 (IntKind.u64.wrap (n * 8)))
theorem pad_list (l : List Int) (S z : Nat) (h : S = l.length + 1 + z + 8) (x : List Int) (hx : x.length = 8) : ((l ++ List.replicate (S - l.length) 0).set l.length 128).take (S - 8) ++ Ar.fit 8 x = l ++ 128 :: (List.replicate z 0 ++ x) := by
  subst h
  rw [Ar.fit_id hx, show l.length + 1 + z + 8 - l.length = (z + 8) + 1 by omega, List.replicate_succ, List.set_append_right _ _ (Nat.le_refl _), Nat.sub_self, List.set_cons_zero, show l.length + 1 + z + 8 - 8 = l.length + (z + 1) by omega, List.take_append, List.take_of_length_le (by omega), show l.length + (z + 1) - l.length = z + 1 by omega, List.take_succ_cons, List.take_replicate, Nat.min_eq_left (by omega)]
  simp
theorem ptail_ok (k : Nat) (hk : 9 ≤ k) (l : List Int) (n : Int) (h0 : 0 ≤ n) (h1 : n < 18446744073709551616) (hl : l.length < 9223372036854775807) : pad_Tail.f k l n = some (if n ≥ 2305843009213693952 ∨ (l.length : Int) ≠ n % 64 then ([], false) else (tailF l n, true)) := by
  unfold pad_Tail.f
  by_cases h : n ≥ 2305843009213693952
  · rw [if_pos h, if_pos (Or.inl h)]
  · rw [if_neg h, u64w_id (x := (l.length : Int)) (by omega) (by omega), Int.tmod_eq_emod_of_nonneg h0]
    by_cases hr : (l.length : Int) = n % 64
    · rw [if_pos hr, if_neg (by simp; omega), pblocks_ok n h0 h1, bs, pput64_ok k hk, bs, if_neg h, Int.tdiv_eq_ediv_of_nonneg h0, u64w_id (x := n / 64) (by omega) (by omega), u64w_id (x := (n + 72) / 64 - n / 64) (by omega) (by omega), w64_id (x := (n + 72) / 64 - n / 64) (by omega) (by omega), w64_id (x := ((n + 72) / 64 - n / 64) * 64) (by omega) (by omega), if_pos (by omega)]
      rw [pad_list l _ (zerosF l.length) (by unfold zerosF; split <;> omega) _ (be8_len _)]
      rfl
    · rw [if_neg hr, if_pos (Or.inr hr)]
def cutF : Nat → List Int → List (List Int)
  | 0, _ => []
  | m + 1, b => b.take 64 :: cutF m (b.drop 64)
theorem cutF_len : ∀ (m : Nat) (b : List Int), (cutF m b).length = m
  | 0, _ => rfl
  | m + 1, b => by rw [cutF, List.length_cons, cutF_len]
theorem pcut_loop : ∀ (m k : Nat) (b : List Int) (out : List (List Int)), b.length / 64 = m → m < k → out.length + m < 1048576 → pad_Cut.l0 k b out = some (out ++ cutF m b, b.drop (64 * m))
  | 0, k + 1, b, out, h, _, _ => by
    rw [pad_Cut.l0, if_neg (by omega)]
    simp [cutF]
  | m + 1, k + 1, b, out, h, hk, ho => by
    rw [pad_Cut.l0, if_pos (by omega), if_pos (by omega), pcut_loop m k (b.drop 64) (out ++ [b.take 64]) (by rw [List.length_drop]; omega) (by omega) (by simp; omega), cutF, List.drop_drop, show 64 + 64 * m = 64 * (m + 1) by omega]
    simp
theorem pcut_ok (k : Nat) (l : List Int) (hk : l.length / 64 < k) (hl : l.length < 1000000) : pad_Cut.f k l = some (cutF (l.length / 64) l, l.drop (64 * (l.length / 64))) := by
  unfold pad_Cut.f
  rw [pcut_loop (l.length / 64) k l [] rfl hk (by simp; omega)]
  simp
end Go.Proofs.YtkcdcbiobkcpmaaDoor.Lm
end
section
namespace Go.Proofs.YtkcdcbiobkcpmaaDoor.Lm
open Go.RowKit Go.Proofs.YtkcdcbiobkcpmaaDoor.PA Go.Proofs.YtkcdcbiobkcpmaaDoorW.PrintWords Go.Proofs.YtkcdcbiobkcpmaaDoorW.PrintLast Go.Proofs.YtkcdcbiobkcpmaaDoorW.PrintMore
theorem r02put64_step (k : Nat) (x : Int) (i : Nat) (l : List Int) (hi : i < 8) (h0 : 0 ≤ x) (h1 : x < 18446744073709551616) : drawlotref01_Put64.l0 (k + 1) x i l = drawlotref01_Put64.l0 k (x / 256) ((i : Int) - 1) (Ar.set 8 l i (x % 256)) := by
  have e1 : IntKind.u64.wrap (Int.tdiv x 256) = x / 256 := by rw [Int.tdiv_eq_ediv_of_nonneg h0, u64w]; omega
  have e2 : Int.tmod x 256 % 256 = x % 256 := by rw [Int.tmod_eq_emod_of_nonneg h0]; omega
  rw [drawlotref01_Put64.l0, if_pos (by omega), if_pos (by omega), if_pos (by omega), e1, e2, w64_id (by omega) (by omega)]
theorem r02put64_ok (k : Nat) (hk : 9 ≤ k) (x : Int) (h0 : 0 ≤ x) (h1 : x < 18446744073709551616) : drawlotref01_Put64.f k x = some (be8 x) := by
  obtain ⟨k, rfl⟩ : ∃ m, k = m + 9 := ⟨k - 9, by omega⟩
  unfold drawlotref01_Put64.f be8
  rw [show (7 : Int) = ((7 : Nat) : Int) from rfl, r02put64_step _ _ 7 _ (by decide) h0 h1, show ((7 : Nat) : Int) - 1 = ((6 : Nat) : Int) from rfl, r02put64_step _ _ 6 _ (by decide) (by omega) (by omega), show ((6 : Nat) : Int) - 1 = ((5 : Nat) : Int) from rfl,
    r02put64_step _ _ 5 _ (by decide) (by omega) (by omega), show ((5 : Nat) : Int) - 1 = ((4 : Nat) : Int) from rfl, r02put64_step _ _ 4 _ (by decide) (by omega) (by omega), show ((4 : Nat) : Int) - 1 = ((3 : Nat) : Int) from rfl, r02put64_step _ _ 3 _ (by decide) (by omega) (by omega), show ((3 : Nat) : Int) - 1 = ((2 : Nat) : Int) from rfl, r02put64_step _ _ 2 _ (by decide) (by omega) (by omega), show ((2 : Nat) : Int) - 1 = ((1 : Nat) : Int) from rfl,
    r02put64_step _ _ 1 _ (by decide) (by omega) (by omega), show ((1 : Nat) : Int) - 1 = ((0 : Nat) : Int) from rfl, r02put64_step _ _ 0 _ (by decide) (by omega) (by omega), drawlotref01_Put64.l0, if_neg (by decide)]
  have e2 : x / 256 / 256 = x / 65536 := by omega
  have e3 : x / 65536 / 256 = x / 16777216 := by omega
  have e4 : x / 16777216 / 256 = x / 4294967296 := by omega
  have e5 : x / 4294967296 / 256 = x / 1099511627776 := by omega
  have e6 : x / 1099511627776 / 256 = x / 281474976710656 := by omega
  have e7 : x / 281474976710656 / 256 = x / 72057594037927936 := by omega
  simp only [e2, e3, e4, e5, e6, e7]
  simp [Ar.set, Ar.fit, List.set]
theorem rfill (n : Int) : ∀ (z k : Nat) (x : List Int), (∀ i, i < z → (x.length + i) % 64 ≠ 56) → x.length + z < 100000 → drawlotref02_Tail.l0 (k + z) n x = drawlotref02_Tail.l0 k n (x ++ List.replicate z 0)
  | 0, k, x, _, _ => by simp
  | z + 1, k, x, h, hl => by
    have h0 := h 0 (by omega)
    rw [show k + (z + 1) = (k + z) + 1 by omega]
    conv => lhs; rw [drawlotref02_Tail.l0]
    rw [if_neg (by omega), if_pos (by omega), rfill n z k (x ++ [0]) (fun i hi => by have := h (i + 1) (by omega); rw [List.length_append, List.length_singleton]; omega) (by simp; omega), List.append_assoc, List.replicate_succ]
    rfl
theorem rcopy (k : Nat) (i : Nat) (x b : List Int) (hi : i < 8) (hl : x.length < 1000000) : drawlotref02_Tail.l1 (k + 1) x i b = drawlotref02_Tail.l1 k (x ++ [Ar.get 8 b i]) ((i + 1 : Nat) : Int) b := by
  conv => lhs; rw [drawlotref02_Tail.l1]
  rw [if_pos (by omega), if_pos (by omega), if_pos (by omega), w64_id (by omega) (by omega)]
  rfl
theorem rcopied (k : Nat) (hk : 9 ≤ k) (x : List Int) (z : Int) (hl : x.length < 100000) : drawlotref02_Tail.l1 k x 0 (be8 z) = some (x ++ be8 z, true) := by
  obtain ⟨k, rfl⟩ : ∃ m, k = m + 9 := ⟨k - 9, by omega⟩
  rw [show (0 : Int) = ((0 : Nat) : Int) from rfl, rcopy _ 0 _ _ (by decide) (by omega), rcopy _ 1 _ _ (by decide) (by simp; omega), rcopy _ 2 _ _ (by decide) (by simp; omega), rcopy _ 3 _ _ (by decide) (by simp; omega), rcopy _ 4 _ _ (by decide) (by simp; omega), rcopy _ 5 _ _ (by decide) (by simp; omega), rcopy _ 6 _ _ (by decide) (by simp; omega), rcopy _ 7 _ _ (by decide) (by simp; omega)]
  conv => lhs; rw [drawlotref02_Tail.l1]
  rw [if_neg (by decide)]
  have g : ∀ i, i < 8 → Ar.get 8 (be8 z) (i : Nat) = (be8 z).getD i 0 := by
    intro i hi
    unfold Ar.get
    rw [Ar.fit_id (be8_len z), rd_nat]
  rw [g 0 (by decide), g 1 (by decide), g 2 (by decide), g 3 (by decide), g 4 (by decide), g 5 (by decide), g 6 (by decide), g 7 (by decide)]
  simp [be8]
theorem rtail_ok (k : Nat) (hk : 90 ≤ k) (l : List Int) (n : Int) (h0 : 0 ≤ n) (h1 : n < 18446744073709551616) (hl : l.length < 90000) : drawlotref02_Tail.f k l n = some (if n ≥ 2305843009213693952 ∨ (l.length : Int) ≠ n % 64 then ([], false) else (tailF l n, true)) := by
  obtain ⟨k, rfl⟩ : ∃ m, k = (m + 80) + 1 := ⟨k - 81, by omega⟩
  unfold drawlotref02_Tail.f
  by_cases h : n ≥ 2305843009213693952
  · rw [if_pos h, if_pos (Or.inl h), drawlotref02_Tail.j0, if_pos rfl]
  · rw [if_neg h, u64w_id (x := (l.length : Int)) (by omega) (by omega), Int.tmod_eq_emod_of_nonneg h0]
    by_cases hr : (l.length : Int) = n % 64
    · rw [if_neg (by simp; omega), show ((l.length : Int) != n % 64) = false from bne_eq_false_iff_eq.mpr hr, drawlotref02_Tail.j0, if_neg (by decide), bs, if_pos (by simp; omega), bs, if_pos (by simp; omega)]
      have hz : zerosF l.length ≤ 63 := by unfold zerosF; split <;> omega
      rw [show k + 80 = ((k + 79 - zerosF l.length) + 1) + zerosF l.length by omega, rfill n _ _ _ (fun i hi => by
        unfold zerosF at hi
        simp only [List.nil_append, List.length_append, List.length_singleton]
        split at hi <;> omega) (by simp; omega)]
      conv => lhs; rw [drawlotref02_Tail.l0]
      rw [if_pos (by
        unfold zerosF
        simp only [List.nil_append, List.length_append, List.length_singleton, List.length_replicate]
        split <;> omega), r02put64_ok _ (by omega) _ (by rw [u64w]; omega) (by rw [u64w]; omega), bs, rcopied _ (by omega) _ _ (by simp; omega)]
      unfold tailF
      rw [show (8 * n : Int) = n * 8 by omega]
      simp
    · rw [if_pos (Or.inr hr), show ((l.length : Int) != n % 64) = true from bne_iff_ne.mpr hr, drawlotref02_Tail.j0, if_pos rfl]
end Go.Proofs.YtkcdcbiobkcpmaaDoor.Lm
end
section
namespace Go.Proofs.YtkcdcbiobkcpmaaDoor.Lm
open Go.RowKit Go.Proofs.YtkcdcbiobkcpmaaDoor.PA Go.Proofs.YtkcdcbiobkcpmaaDoorW.PrintWords Go.Proofs.YtkcdcbiobkcpmaaDoorW.PrintLast Go.Proofs.YtkcdcbiobkcpmaaDoorW.PrintMore
theorem rcut_loop : ∀ (m k : Nat) (b : List Int) (out : List (List Int)) (t : Nat), (b.length - t) / 64 = m → t ≤ b.length → m < k → out.length + m < 1048576 → b.length < 1000000 → drawlotref02_Cut.l0 k b out (t : Int) = some (out ++ cutF m (b.drop t), b.drop (t + 64 * m))
  | 0, k + 1, b, out, t, h, ht, _, _, hb => by
    rw [drawlotref02_Cut.l0, if_pos ⟨by omega, by omega, by omega⟩, if_neg (by omega)]
    simp [cutF]
  | m + 1, k + 1, b, out, t, h, ht, hk, ho, hb => by
    have e := rcut_loop m k b (out ++ [(b.drop t).take 64]) (t + 64) (by omega) (by omega) (by omega) (by simp; omega) hb
    rw [drawlotref02_Cut.l0, if_pos ⟨by omega, by omega, by omega⟩, if_pos (by omega), if_pos (by omega), Int.toNat_natCast, show ((t : Int) + 64) = ((t + 64 : Nat) : Int) by omega, e, cutF, List.drop_drop, show t + 64 + 64 * m = t + 64 * (m + 1) by omega]
    simp
theorem rcut_ok (k : Nat) (l : List Int) (hk : l.length / 64 < k) (hl : l.length < 1000000) : drawlotref02_Cut.f k l = some (cutF (l.length / 64) l, l.drop (64 * (l.length / 64))) := by
  unfold drawlotref02_Cut.f
  have := rcut_loop (l.length / 64) k l [] 0 (by simp) (by omega) hk (by simp; omega) hl
  rw [show (0 : Int) = ((0 : Nat) : Int) from rfl, this]
  simp
end Go.Proofs.YtkcdcbiobkcpmaaDoor.Lm
end
section
namespace Go.Proofs.YtkcdcbiobkcpmaaDoor.Lm
open Go.RowKit Go.Proofs.YtkcdcbiobkcpmaaDoor.PA Go.Proofs.YtkcdcbiobkcpmaaDoorW.PrintWords Go.Proofs.YtkcdcbiobkcpmaaDoorW.PrintLast
def ByteL (l : List Int) : Prop := ∀ x ∈ l, 0 ≤ x ∧ x < 256
theorem ByteL.app {a b : List Int} (ha : ByteL a) (hb : ByteL b) : ByteL (a ++ b) := fun x hx => by
  rcases List.mem_append.1 hx with h | h
  · exact ha x h
  · exact hb x h
theorem ByteL.drop {a : List Int} (ha : ByteL a) (n : Nat) : ByteL (a.drop n) := fun x hx => ha x (List.mem_of_mem_drop hx)
theorem ByteL.take {a : List Int} (ha : ByteL a) (n : Nat) : ByteL (a.take n) := fun x hx => ha x (List.mem_of_mem_take hx)
theorem ByteL.nil : ByteL [] := fun x hx => by cases hx
def Blk (b : List Int) : Prop := b.length = 64 ∧ ByteL b
theorem Blk.inR {b : List Int} (h : Blk b) : InR 64 256 b := InR.of_mem (by decide) h.1 h.2
def takes (s : List Int) (l : List (List Int)) : List Int := l.foldl tk s
theorem takes_app (s : List Int) (a b : List (List Int)) : takes s (a ++ b) = takes (takes s a) b := List.foldl_append
def bks (l : List Int) : List (List Int) := cutF (l.length / 64) l
def rst (l : List Int) : List Int := l.drop (64 * (l.length / 64))
theorem rst_len (l : List Int) : (rst l).length = l.length % 64 := by unfold rst; rw [List.length_drop]; omega
theorem cutF_app : ∀ (m n : Nat) (x y : List Int), 64 * m ≤ x.length → cutF (m + n) (x ++ y) = cutF m x ++ cutF n (x.drop (64 * m) ++ y)
  | 0, n, x, y, _ => by simp [cutF]
  | m + 1, n, x, y, h => by
    rw [show m + 1 + n = (m + n) + 1 by omega]
    simp only [cutF]
    rw [List.take_append_of_le_length (by omega), List.drop_append_of_le_length (by omega), cutF_app m n (x.drop 64) y (by rw [List.length_drop]; omega), List.drop_drop, show 64 + 64 * m = 64 * (m + 1) by omega]
    rfl
theorem bks_app (x y : List Int) : bks (x ++ y) = bks x ++ bks (rst x ++ y) := by
  unfold bks
  have h : (x ++ y).length / 64 = x.length / 64 + (rst x ++ y).length / 64 := by
    rw [List.length_append, List.length_append, rst_len]; omega
  rw [h, cutF_app _ _ x y (by omega)]
  rfl
theorem rst_app (x y : List Int) : rst (x ++ y) = rst (rst x ++ y) := by
  have h : (x ++ y).length / 64 = x.length / 64 + (rst x ++ y).length / 64 := by
    rw [List.length_append, List.length_append, rst_len]; omega
  have e : rst (x ++ y) = (x ++ y).drop (64 * (x.length / 64 + (rst x ++ y).length / 64)) := by rw [show rst (x ++ y) = (x ++ y).drop (64 * ((x ++ y).length / 64)) from rfl, h]
  rw [e, Nat.mul_add, ← List.drop_drop, List.drop_append_of_le_length (by omega)]
  rfl
theorem bks_short {l : List Int} (h : l.length < 64) : bks l = [] := by unfold bks; rw [Nat.div_eq_of_lt h]; rfl
theorem rst_short {l : List Int} (h : l.length < 64) : rst l = l := by unfold rst; rw [Nat.div_eq_of_lt h]; rfl
theorem cutF_blk : ∀ (m : Nat) (l : List Int), 64 * m ≤ l.length → ByteL l → ∀ b ∈ cutF m l, Blk b
  | 0, l, _, _, b, hb => by cases hb
  | m + 1, l, h, hl, b, hb => by
    simp only [cutF, List.mem_cons] at hb
    rcases hb with rfl | hb
    · exact ⟨by rw [List.length_take]; omega, hl.take 64⟩
    · exact cutF_blk m (l.drop 64) (by rw [List.length_drop]; omega) (hl.drop 64) b hb
theorem bks_blk {l : List Int} (hl : ByteL l) : ∀ b ∈ bks l, Blk b := cutF_blk _ l (by omega) hl
theorem bks_len (l : List Int) : (bks l).length = l.length / 64 := cutF_len _ l
theorem takes_in {s : List Int} (hs : InR 8 4294967296 s) : ∀ {l : List (List Int)}, (∀ b ∈ l, Blk b) → InR 8 4294967296 (takes s l) := by
  intro l
  induction l generalizing s with
  | nil => intro _; exact hs
  | cons b l ih => intro h; exact ih (tk_ok hs (h b (List.mem_cons_self ..)).inR (n := 200) (by omega)).2.2 (fun c hc => h c (List.mem_cons_of_mem _ hc))
theorem stake_loop (l : List (List Int)) (hl : l.length < 1000000) (hb : ∀ b ∈ l, Blk b) : ∀ (m k i : Nat) (s : List Int), i + m = l.length → m + 210 ≤ k → InR 8 4294967296 s → sha_writer_take.l0 k l s (i : Int) = some (takes s (l.drop i))
  | 0, k, i, s, hi, hk, hs => by
    obtain ⟨k, rfl⟩ : ∃ m, k = m + 1 := ⟨k - 1, by omega⟩
    rw [List.drop_eq_nil_of_le (by omega)]
    simp only [sha_writer_take.l0]
    rw [if_neg (by omega)]
    rfl
  | m + 1, k, i, s, hi, hk, hs => by
    obtain ⟨k, rfl⟩ : ∃ m, k = m + 1 := ⟨k - 1, by omega⟩
    have hil : i < l.length := by omega
    have hB := hb l[i] (List.getElem_mem hil)
    have t := tk_ok hs hB.inR (n := k) (by omega)
    have h1 := stake_loop l hl hb m k (i + 1) (tk s l[i]) (by omega) (by omega) t.2.2
    have e1 : wrap64 ((i : Int) + 1) = ((i + 1 : Nat) : Int) := by rw [w64_id (by omega) (by omega)]; omega
    have eb : sha_writer_take.blk l (i : Int) = l[i] := by unfold sha_writer_take.blk; rw [Int.toNat_natCast, List.getD_eq_getElem?_getD, List.getElem?_eq_getElem hil]; rfl
    rw [List.drop_eq_getElem_cons hil]
    simp only [sha_writer_take.l0]
    rw [if_pos (by omega), if_pos (by omega), eb, t.1, bs, e1]
    exact h1
theorem rtake_loop (l : List (List Int)) (hl : l.length < 1000000) (hb : ∀ b ∈ l, Blk b) : ∀ (m k i : Nat) (s : List Int), i + m = l.length → m + 210 ≤ k → InR 8 4294967296 s → drawlotref05_take.l0 k l (i : Int) s = some (takes s (l.drop i))
  | 0, k, i, s, hi, hk, hs => by
    obtain ⟨k, rfl⟩ : ∃ m, k = m + 1 := ⟨k - 1, by omega⟩
    rw [List.drop_eq_nil_of_le (by omega)]
    simp only [drawlotref05_take.l0]
    rw [if_neg (by omega)]
    rfl
  | m + 1, k, i, s, hi, hk, hs => by
    obtain ⟨k, rfl⟩ : ∃ m, k = m + 1 := ⟨k - 1, by omega⟩
    have hil : i < l.length := by omega
    have hB := hb l[i] (List.getElem_mem hil)
    have t := tk_ok hs hB.inR (n := k) (by omega)
    have h1 := rtake_loop l hl hb m k (i + 1) (tk s l[i]) (by omega) (by omega) t.2.2
    have e1 : wrap64 ((i : Int) + 1) = ((i + 1 : Nat) : Int) := by rw [w64_id (by omega) (by omega)]; omega
    have eb : rd_L2 l (i : Int) = l[i] := by unfold rd_L2; rw [Int.toNat_natCast, List.getD_eq_getElem?_getD, List.getElem?_eq_getElem hil]; rfl
    rw [List.drop_eq_getElem_cons hil]
    simp only [drawlotref05_take.l0]
    rw [if_pos (by omega), if_pos (by omega), eb, t.2.1, bs, e1]
    exact h1
theorem stake_ok {k : Nat} {s b : List Int} (hs : InR 8 4294967296 s) (hb : ByteL b) (hl : b.length < 1000000) (hk : b.length / 64 + 220 ≤ k) : sha_writer_take.f k s b = some (takes s (bks b), rst b) := by
  unfold sha_writer_take.f
  rw [pcut_ok k b (by omega) hl, bs]
  show ((sha_writer_take.l0 k (bks b) s ((0 : Nat) : Int)).bind fun q => some (q, rst b)) = _
  rw [stake_loop (bks b) (by rw [bks_len]; omega) (bks_blk hb) (b.length / 64) k 0 s (by rw [bks_len]; omega) (by omega) hs, bs]
  rfl
theorem rtake_ok {k : Nat} {s b : List Int} (hs : InR 8 4294967296 s) (hb : ByteL b) (hl : b.length < 1000000) (hk : b.length / 64 + 220 ≤ k) : drawlotref05_take.f k s (bks b) = some (takes s (bks b)) := by
  unfold drawlotref05_take.f
  exact rtake_loop _ (by rw [bks_len]; omega) (bks_blk hb) (b.length / 64) k 0 s (by rw [bks_len]; omega) (by omega) hs
theorem rcut_ok' {k : Nat} {b : List Int} (hl : b.length < 1000000) (hk : b.length / 64 < k) : drawlotref02_Cut.f k b = some (bks b, rst b) := rcut_ok k b hk hl
theorem swrite_ok {k : Nat} {s r b : List Int} {n : Int} (hs : InR 8 4294967296 s) (hr : ByteL r) (hb : ByteL b) (h : (r ++ b).length < 1000000) (hk : (r ++ b).length / 64 + 220 ≤ k) (h0 : 0 ≤ n) (h1 : n < 2305843009213693952) :
    sha_writer_write.f k s r n b = some (takes s (bks (r ++ b)), rst (r ++ b), n + b.length) := by
  have hl := h
  rw [List.length_append] at hl
  unfold sha_writer_write.f bytes_Clone.f
  rw [bs, if_pos (by simp; omega), bs, List.nil_append, if_pos (by omega), stake_ok hs (hr.app hb) h hk, bs, u64w_id (x := (b.length : Int)) (by omega) (by omega), u64w_id (by omega) (by omega)]
def outF (s r : List Int) (n : Int) (t : List Int) : List Int × List Int × Int × Int := if n + (t.length : Int) ≥ 2305843009213693952 then (List.replicate 8 0, [], 0, 11) else (takes s (bks (r ++ t)), rst (r ++ t), n + t.length, 0)
theorem sWrite_loop (l : List (List Int)) (hl : l.length ≤ 20) (h5 : ∀ b ∈ l, b.length ≤ 1000 ∧ ByteL b) : ∀ (m k i : Nat) (s r : List Int) (n : Int), i + m = l.length → m + 400 ≤ k → InR 8 4294967296 s → r.length < 64 → ByteL r → 0 ≤ n → n < 2305843009213693952 →
    sha_Write.l0 k s r n l (i : Int) = some (outF s r n (l.drop i).flatten)
  | 0, k, i, s, r, n, hi, hk, hs, hr, hrb, h0, h1 => by
    obtain ⟨k, rfl⟩ : ∃ m, k = m + 1 := ⟨k - 1, by omega⟩
    rw [List.drop_eq_nil_of_le (by omega)]
    simp only [sha_Write.l0]
    rw [if_neg (by omega)]
    unfold outF
    rw [if_neg (by simp; omega)]
    simp only [List.flatten_nil, List.append_nil, bks_short hr, rst_short hr, List.length_nil]
    simp [takes]
  | m + 1, k, i, s, r, n, hi, hk, hs, hr, hrb, h0, h1 => by
    obtain ⟨k, rfl⟩ : ∃ m, k = m + 1 := ⟨k - 1, by omega⟩
    have hil : i < l.length := by omega
    obtain ⟨hB, hBb⟩ := h5 l[i] (List.getElem_mem hil)
    have e1 : wrap64 ((i : Int) + 1) = ((i + 1 : Nat) : Int) := by rw [w64_id (by omega) (by omega)]; omega
    have eb : sha_Write.row l (i : Int) = l[i] := by unfold sha_Write.row; rw [Int.toNat_natCast, List.getD_eq_getElem?_getD, List.getElem?_eq_getElem hil]; rfl
    have hw := swrite_ok (k := k) (n := n) hs hrb hBb (by rw [List.length_append]; omega) (by rw [List.length_append]; omega) h0 h1
    rw [List.drop_eq_getElem_cons hil, List.flatten_cons]
    simp only [sha_Write.l0]
    rw [if_pos (by omega), if_pos (by omega), eb, hw, bs]
    by_cases hm : n + (l[i].length : Int) ≥ 2305843009213693952
    · rw [if_pos hm]
      unfold outF
      rw [if_pos (by rw [List.length_append]; omega)]
    · rw [if_neg hm, e1]
      dsimp only
      have hrl : (rst (r ++ l[i])).length < 64 := by rw [rst_len]; omega
      rw [sWrite_loop l hl h5 m k (i + 1) (takes s (bks (r ++ l[i]))) (rst (r ++ l[i])) (n + (l[i].length : Int)) (by omega) (by omega) (takes_in hs (bks_blk (hrb.app hBb))) hrl ((hrb.app hBb).drop _) (by omega) (by omega)]
      unfold outF
      simp only [List.length_append]
      rw [show n + (l[i].length : Int) + ((l.drop (i + 1)).flatten.length : Int) = n + ((l[i].length + (l.drop (i + 1)).flatten.length : Nat) : Int) by omega, ← takes_app, ← List.append_assoc r, ← bks_app, ← rst_app]
theorem sright_ok (r : List Int) {n : Int} (h0 : 0 ≤ n) (h1 : n < 18446744073709551616) (hr : r.length < 1000000) (a0 : List Int) : sha_Right.f a0 r n = some (decide (n < 2305843009213693952 ∧ (r.length : Int) = n % 64)) := by
  unfold sha_Right.f
  have e : Go.bits .and .u64 n 63 = n % 64 := bits_mask .u64 64 (by decide) (fun m a b => u64w_id a b) 6 (by decide) n h0 h1
  by_cases h : n < 2305843009213693952
  · rw [if_pos h, e, u64w_id (by omega) (by omega)]
    rw [Option.some.injEq, Bool.eq_iff_iff]
    simp [h]
  · rw [if_neg h]
    simp [h]
theorem rright_ok (r : List Int) {n : Int} (h0 : 0 ≤ n) (_h1 : n < 18446744073709551616) (hr : r.length < 1000000) (a0 : List Int) : drawlotref05_Right.f a0 r n = some (decide (n < 2305843009213693952 ∧ (r.length : Int) = n % 64)) := by
  unfold drawlotref05_Right.f
  by_cases h : n < 2305843009213693952
  · rw [if_pos h, u64w_id (by omega) (by omega), Int.tmod_eq_emod_of_nonneg h0]
    rw [Option.some.injEq, Bool.eq_iff_iff]
    simp [h]
  · rw [if_neg h]
    simp [h]
def wrF (s r : List Int) (n : Int) (t : List Int) : List Int × List Int × Int × Int := if n < 2305843009213693952 ∧ (r.length : Int) = n % 64 then outF s r n t else (List.replicate 8 0, [], 0, 1)
theorem sWrite_ok {k : Nat} (hk : 500 ≤ k) {s r : List Int} {n : Int} (hs : InR 8 4294967296 s) (hr : ByteL r) (h0 : 0 ≤ n) (h1 : n < 18446744073709551616) (hl : r.length < 1000000) {l : List (List Int)} (h20 : l.length ≤ 20) (h5 : ∀ b ∈ l, b.length ≤ 1000 ∧ ByteL b) :
    sha_Write.f k s r n l = some (wrF s r n l.flatten) := by
  unfold sha_Write.f wrF
  rw [sright_ok r h0 h1 hl, bs]
  by_cases h : n < 2305843009213693952 ∧ (r.length : Int) = n % 64
  · rw [if_pos (decide_eq_true h), if_pos h, show (0 : Int) = ((0 : Nat) : Int) from rfl, sWrite_loop l h20 h5 l.length k 0 s r n (by omega) (by omega) hs (by omega) hr h0 h.1, List.drop_zero]
  · rw [if_neg (by simpa using h), if_neg h]
theorem flat_len {l : List (List Int)} (h20 : l.length ≤ 20) (h5 : ∀ b ∈ l, b.length ≤ 1000 ∧ ByteL b) : l.flatten.length ≤ 20000 := by
  have : ∀ (l : List (List Int)), (∀ b ∈ l, b.length ≤ 1000 ∧ ByteL b) → l.flatten.length ≤ 1000 * l.length := by
    intro l
    induction l with
    | nil => intro _; simp
    | cons a l ih =>
      intro h
      have := ih (fun b hb => h b (List.mem_cons_of_mem _ hb))
      have := (h a (List.mem_cons_self ..)).1
      rw [List.flatten_cons, List.length_append, List.length_cons]
      omega
  have := this l h5
  omega
theorem flat_byte {l : List (List Int)} (h5 : ∀ b ∈ l, b.length ≤ 1000 ∧ ByteL b) : ByteL l.flatten := fun x hx => by
  obtain ⟨b, hb, hxb⟩ := List.mem_flatten.1 hx
  exact (h5 b hb).2 x hxb
theorem rWrite_ok {k : Nat} (hk : 1000 ≤ k) {s r t : List Int} {n : Int} (hs : InR 8 4294967296 s) (hr : ByteL r) (ht : ByteL t) (h0 : 0 ≤ n) (h1 : n < 18446744073709551616) (hl : r.length < 20000) (htl : t.length ≤ 20000) :
    drawlotref05_Write.f k s r n t = some (wrF s r n t) := by
  unfold drawlotref05_Write.f wrF
  rw [rright_ok r h0 h1 (by omega), bs]
  by_cases h : n < 2305843009213693952 ∧ (r.length : Int) = n % 64
  · rw [if_pos (decide_eq_true h), if_pos h, u64w_id (x := (t.length : Int)) (by omega) (by omega), u64w_id (by omega) (by omega)]
    unfold outF
    by_cases hm : n + (t.length : Int) ≥ 2305843009213693952
    · rw [if_pos hm, if_pos hm]
    · have hl2 : (r ++ t).length < 1000000 := by rw [List.length_append]; omega
      have hk2 : (r ++ t).length / 64 + 220 ≤ k := by rw [List.length_append]; omega
      rw [if_neg hm, if_neg hm, bs, List.nil_append, if_pos (by simp; omega), bs, if_pos (by omega), rcut_ok' hl2 (by omega), bs]
      dsimp only
      rw [rtake_ok hs (hr.app ht) hl2 hk2, bs]
  · rw [if_neg (by simpa using h), if_neg h]
end Go.Proofs.YtkcdcbiobkcpmaaDoor.Lm
end
section
namespace Go.Proofs.YtkcdcbiobkcpmaaDoor.Lm
open Go.RowKit Go.Proofs.YtkcdcbiobkcpmaaDoor.PA Go.Proofs.YtkcdcbiobkcpmaaDoorW.PrintWords Go.Proofs.YtkcdcbiobkcpmaaDoorW.PrintLast
def w4 (x : Int) : List Int := [x / 16777216 % 256, x / 65536 % 256, x / 256 % 256, x % 256]
def hashF (s : List Int) : List Int := w4 (Ar.get 8 s 0) ++ w4 (Ar.get 8 s 1) ++ w4 (Ar.get 8 s 2) ++ w4 (Ar.get 8 s 3) ++ w4 (Ar.get 8 s 4) ++ w4 (Ar.get 8 s 5) ++ w4 (Ar.get 8 s 6) ++ w4 (Ar.get 8 s 7)
theorem put32_ok {x : Int} (h0 : 0 ≤ x) (_h1 : x < 4294967296) : drawlotref01_Put32.f x = some (w4 x) := by
  unfold drawlotref01_Put32.f w4
  rw [Int.tdiv_eq_ediv_of_nonneg h0, Int.tdiv_eq_ediv_of_nonneg h0, Int.tdiv_eq_ediv_of_nonneg h0, Int.tmod_eq_emod_of_nonneg h0]
  simp only [Option.some.injEq, List.cons.injEq, and_true]
  refine ⟨?_, ?_, ?_⟩ <;> omega
theorem shash9 (s : List Int) : sha_writer_hash.f 9 s = some (hashF s) := by kernel_rfl
theorem shash_ok {k : Nat} (hk : 9 ≤ k) (s : List Int) : sha_writer_hash.f k s = some (hashF s) := at_rounds (g := fun k => sha_writer_hash.f k s) (fun k => sha_writer_hash.mono s k) (k := 9) (k' := k) hk (shash9 s)
theorem rl1 (k : Nat) (i : Nat) (hi : i < 8) (s h t : List Int) : drawlotref05_hash.l1 (k + 5) (i : Int) 0 s h t = drawlotref05_hash.l0 k ((i + 1 : Nat) : Int) s (Ar.set 32 (Ar.set 32 (Ar.set 32 (Ar.set 32 h (4 * i) (Ar.get 4 t 0)) (4 * i + 1) (Ar.get 4 t 1)) (4 * i + 2) (Ar.get 4 t 2)) (4 * i + 3) (Ar.get 4 t 3)) := by
  have e : wrap64 (4 * (i : Int)) = 4 * i := w64_id (by omega) (by omega)
  have e0 : wrap64 (4 * (i : Int) + 0) = 4 * i := by rw [w64_id (by omega) (by omega)]; omega
  have e1 : wrap64 (4 * (i : Int) + 1) = 4 * i + 1 := w64_id (by omega) (by omega)
  have e2 : wrap64 (4 * (i : Int) + 2) = 4 * i + 2 := w64_id (by omega) (by omega)
  have e3 : wrap64 (4 * (i : Int) + 3) = 4 * i + 3 := w64_id (by omega) (by omega)
  have en : wrap64 ((i : Int) + 1) = ((i + 1 : Nat) : Int) := by rw [w64_id (by omega) (by omega)]; omega
  have z1 : wrap64 ((0 : Int) + 1) = 1 := by rw [w64_id (by omega) (by omega)]; rfl
  have z2 : wrap64 ((1 : Int) + 1) = 2 := by rw [w64_id (by omega) (by omega)]; rfl
  have z3 : wrap64 ((2 : Int) + 1) = 3 := by rw [w64_id (by omega) (by omega)]; rfl
  have z4 : wrap64 ((3 : Int) + 1) = 4 := by rw [w64_id (by omega) (by omega)]; rfl
  simp only [drawlotref05_hash.l1, e, e0, e1, e2, e3, z1, z2, z3, z4]
  rw [if_pos (by omega), if_pos (by omega), if_pos (by omega), if_pos (by omega), if_pos (by omega), if_pos (by omega), if_pos (by omega), if_pos (by omega), if_pos (by omega), if_pos (by omega), if_pos (by omega), if_pos (by omega), if_pos (by omega), if_pos (by omega), if_pos (by omega), if_pos (by omega), if_neg (by omega), en]
def setw4 (h : List Int) (i : Int) (t : List Int) : List Int := Ar.set 32 (Ar.set 32 (Ar.set 32 (Ar.set 32 h (4 * i) (Ar.get 4 t 0)) (4 * i + 1) (Ar.get 4 t 1)) (4 * i + 2) (Ar.get 4 t 2)) (4 * i + 3) (Ar.get 4 t 3)
theorem rl0 (k : Nat) (i : Nat) (hi : i < 8) {s : List Int} (hs : InR 8 4294967296 s) (h : List Int) : drawlotref05_hash.l0 (k + 6) (i : Int) s h = drawlotref05_hash.l0 k ((i + 1 : Nat) : Int) s (setw4 h i (w4 (Ar.get 8 s i))) := by
  rw [drawlotref05_hash.l0, if_pos (by omega), if_pos (by omega), put32_ok (hs _).1 (hs _).2, bs, rl1 k i hi]
  rfl
theorem rhash_ok {k : Nat} (hk : 60 ≤ k) {s : List Int} (hs : InR 8 4294967296 s) : drawlotref05_hash.f k s = some (hashF s) := by
  obtain ⟨k, rfl⟩ : ∃ m, k = m + 1 + 6 + 6 + 6 + 6 + 6 + 6 + 6 + 6 := ⟨k - 49, by omega⟩
  unfold drawlotref05_hash.f
  show drawlotref05_hash.l0 _ ((0 : Nat) : Int) s _ = _
  rw [rl0 _ 0 (by omega) hs, rl0 _ 1 (by omega) hs, rl0 _ 2 (by omega) hs, rl0 _ 3 (by omega) hs, rl0 _ 4 (by omega) hs, rl0 _ 5 (by omega) hs, rl0 _ 6 (by omega) hs, rl0 _ 7 (by omega) hs, drawlotref05_hash.l0, if_neg (by omega)]
  kernel_rfl
def fiF (s r : List Int) (n : Int) : List Int × Int := if n < 2305843009213693952 ∧ (r.length : Int) = n % 64 then (hashF (takes s (bks (tailF r n))), 0) else (List.replicate 32 0, 1)
theorem tailF_byte {r : List Int} (hr : ByteL r) (n : Int) : ByteL (tailF r n) := by
  unfold tailF
  refine hr.app fun x hx => ?_
  rcases List.mem_cons.1 hx with rfl | hx
  · omega
  · rcases List.mem_append.1 hx with h | h
    · have := (List.mem_replicate.1 h).2; omega
    · exact be8_byte _ x h
theorem tailF_len (r : List Int) (n : Int) (h : r.length < 64) : (tailF r n).length ≤ 200 := by
  unfold tailF zerosF
  simp only [List.length_append, List.length_cons, List.length_replicate, be8_len]
  split <;> omega
theorem sFinish_ok {k : Nat} (hk : 300 ≤ k) {s r : List Int} {n : Int} (hs : InR 8 4294967296 s) (hr : ByteL r) (h0 : 0 ≤ n) (h1 : n < 18446744073709551616) (hl : r.length < 20000) : sha_Finish.f k s r n = some (fiF s r n) := by
  unfold sha_Finish.f fiF
  have ht := ptail_ok k (by omega) r n h0 h1 (by omega)
  by_cases h : n < 2305843009213693952 ∧ (r.length : Int) = n % 64
  · rw [if_neg (by omega)] at ht
    have := tailF_len r n (by omega)
    rw [if_pos h, ht, bs, if_pos rfl]
    dsimp only
    rw [stake_ok hs (tailF_byte hr n) (by omega) (by omega), bs, shash_ok (by omega), bs]
  · rw [if_pos (by omega)] at ht
    rw [if_neg h, ht, bs, if_neg (by decide)]
    rfl
theorem rFinish_ok {k : Nat} (hk : 300 ≤ k) {s r : List Int} {n : Int} (hs : InR 8 4294967296 s) (hr : ByteL r) (h0 : 0 ≤ n) (h1 : n < 18446744073709551616) (hl : r.length < 20000) : drawlotref05_Finish.f k s r n = some (fiF s r n) := by
  unfold drawlotref05_Finish.f fiF
  have ht := rtail_ok k (by omega) r n h0 h1 (by omega)
  by_cases h : n < 2305843009213693952 ∧ (r.length : Int) = n % 64
  · rw [if_neg (by omega)] at ht
    have := tailF_len r n (by omega)
    rw [if_pos h, ht, bs, if_pos rfl]
    dsimp only
    rw [rcut_ok' (by omega) (by omega), bs, rtake_ok hs (tailF_byte hr n) (by omega) (by omega), bs, rhash_ok (by omega) (takes_in hs (bks_blk (tailF_byte hr n))), bs]
  · rw [if_pos (by omega)] at ht
    rw [if_neg h, ht, bs, if_neg (by decide)]
    rfl
end Go.Proofs.YtkcdcbiobkcpmaaDoor.Lm
end
section
namespace Go.Proofs.YtkcdcbiobkcpmaaDoor.Lm
open Go.RowKit Go.Proofs.YtkcdcbiobkcpmaaDoor.PA Go.Proofs.YtkcdcbiobkcpmaaDoorW.PrintWords Go.Proofs.YtkcdcbiobkcpmaaDoorW.PrintLast
theorem rjoin_loop (l : List (List Int)) (hl : l.length ≤ 20) (h5 : ∀ b ∈ l, b.length ≤ 1000 ∧ ByteL b) : ∀ (m k i : Nat) (acc : List Int), i + m = l.length → m < k → acc.length ≤ 1000 * i → drawlotref05_Join.l0 k l acc (i : Int) = some (acc ++ (l.drop i).flatten)
  | 0, k, i, acc, hi, hk, _ => by
    obtain ⟨k, rfl⟩ : ∃ m, k = m + 1 := ⟨k - 1, by omega⟩
    rw [List.drop_eq_nil_of_le (by omega)]
    simp only [drawlotref05_Join.l0]
    rw [if_neg (by omega), List.flatten_nil, List.append_nil]
  | m + 1, k, i, acc, hi, hk, ha => by
    obtain ⟨k, rfl⟩ : ∃ m, k = m + 1 := ⟨k - 1, by omega⟩
    have hil : i < l.length := by omega
    have hB := (h5 l[i] (List.getElem_mem hil)).1
    have e1 : wrap64 ((i : Int) + 1) = ((i + 1 : Nat) : Int) := by rw [w64_id (by omega) (by omega)]; omega
    have eb : rd_L1 l (i : Int) = l[i] := by unfold rd_L1; rw [Int.toNat_natCast, List.getD_eq_getElem?_getD, List.getElem?_eq_getElem hil]; rfl
    rw [List.drop_eq_getElem_cons hil, List.flatten_cons, ← List.append_assoc]
    simp only [drawlotref05_Join.l0]
    rw [if_pos (by omega), if_pos (by omega), eb, if_pos (by omega), e1]
    exact rjoin_loop l hl h5 m k (i + 1) (acc ++ l[i]) (by omega) (by omega) (by rw [List.length_append]; omega)
theorem rjoin_ok {k : Nat} (hk : 30 ≤ k) {l : List (List Int)} (hl : l.length ≤ 20) (h5 : ∀ b ∈ l, b.length ≤ 1000 ∧ ByteL b) : drawlotref05_Join.f k l = some l.flatten := by
  unfold drawlotref05_Join.f
  have h := rjoin_loop l hl h5 l.length k 0 [] (by omega) (by omega) (by simp)
  rw [List.drop_zero, List.nil_append] at h
  exact h
theorem great_loop (l : List (List Int)) (hl : l.length ≤ 20) : ∀ (m k i : Nat), i + m = l.length → m < k → drawlotref05_Great.l0 k l (i : Int) = some ((l.drop i).any (fun x => decide (500 < x.length)))
  | 0, k, i, hi, hk => by
    obtain ⟨k, rfl⟩ : ∃ m, k = m + 1 := ⟨k - 1, by omega⟩
    rw [List.drop_eq_nil_of_le (by omega)]
    simp only [drawlotref05_Great.l0]
    rw [if_neg (by omega), List.any_nil]
  | m + 1, k, i, hi, hk => by
    obtain ⟨k, rfl⟩ : ∃ m, k = m + 1 := ⟨k - 1, by omega⟩
    have hil : i < l.length := by omega
    have e1 : wrap64 ((i : Int) + 1) = ((i + 1 : Nat) : Int) := by rw [w64_id (by omega) (by omega)]; omega
    have eb : rd_L1 l (i : Int) = l[i] := by unfold rd_L1; rw [Int.toNat_natCast, List.getD_eq_getElem?_getD, List.getElem?_eq_getElem hil]; rfl
    rw [List.drop_eq_getElem_cons hil, List.any_cons]
    simp only [drawlotref05_Great.l0]
    rw [if_pos (by omega), if_pos (by omega), eb]
    by_cases h : ((l[i]).length : Int) > 500
    · rw [if_pos h, decide_eq_true (show 500 < (l[i]).length by omega), Bool.true_or]
    · rw [if_neg h, decide_eq_false (show ¬ 500 < (l[i]).length by omega), Bool.false_or, e1]
      exact great_loop l hl m k (i + 1) (by omega) (by omega)
theorem great_ok {k : Nat} (hk : 30 ≤ k) (l : List (List Int)) : ∃ b, drawlotref05_Great.f k l = some b ∧ (b = false → l.length ≤ 20 ∧ ∀ x ∈ l, x.length ≤ 500) := by
  unfold drawlotref05_Great.f
  by_cases h : (l.length : Int) > 20
  · exact ⟨true, by rw [if_pos h], fun e => by cases e⟩
  · refine ⟨l.any (fun x => decide (500 < x.length)), ?_, fun e => ⟨by omega, fun x hx => ?_⟩⟩
    · rw [if_neg h]
      have := great_loop l (by omega) l.length k 0 (by omega) (by omega)
      rw [List.drop_zero] at this
      exact this
    · have := List.any_eq_false.1 e x hx
      have := of_decide_eq_false (by simpa using this : decide (500 < x.length) = false)
      omega
def H0 : List Int := [1779033703, 3144134277, 1013904242, 2773480762, 1359893119, 2600822924, 528734635, 1541459225]
end Go.Proofs.YtkcdcbiobkcpmaaDoor.Lm
end
section
namespace Go.Proofs.YtkcdcbiobkcpmaaDoor.Pure
open Go.RowKit Go.Proofs.YtkcdcbiobkcpmaaDoor.PA Go.Proofs.YtkcdcbiobkcpmaaDoorW.PrintWords Go.Proofs.YtkcdcbiobkcpmaaDoorW.PrintLast Go.Proofs.YtkcdcbiobkcpmaaDoor.Lm
theorem rsame_self (s r : List Int) (n : Int) : drawlotref05_Same.f s r n s r n = some true := by
  unfold drawlotref05_Same.f
  rw [if_pos (eqb_self _ _), if_pos rfl, beq_self_eq_true]
theorem same_eq (s r : List Int) (n : Int) (s' r' : List Int) (n' : Int) : ∃ b, sha_Same.f s r n s' r' n' = some b ∧ drawlotref05_Same.f s r n s' r' n' = some b := by
  unfold sha_Same.f drawlotref05_Same.f bytes_Equal.f
  by_cases h : Ar.eqb 8 s s' = true
  · by_cases h2 : (strOfNums r).toList = (strOfNums r').toList
    · exact ⟨n == n', by rw [if_pos h, bs, if_pos (by rw [beq_iff_eq]; exact h2)], by rw [if_pos h, if_pos h2]⟩
    · exact ⟨false, by rw [if_pos h, bs, if_neg (by rw [beq_iff_eq]; exact h2)], by rw [if_pos h, if_neg h2]⟩
  · exact ⟨false, by rw [if_neg h], by rw [if_neg h]⟩
theorem ShaWrites : drawlotlaw05_ShaWrites.Pure := by
  intro s r n s' r' n' l hs hr hn hs' hr' hn' hl
  refine ⟨2000, ?_⟩
  unfold drawlotlaw05_ShaWrites.f
  obtain ⟨b, hg, hb⟩ := great_ok (k := 2000) (by omega) l
  rw [alive05 _ (by omega), bs, if_pos rfl, hg, bs]
  cases b with
  | true => rw [if_pos rfl]
  | false =>
    obtain ⟨h20, h500⟩ := hb rfl
    have h5 : ∀ x ∈ l, x.length ≤ 1000 ∧ ByteL x := fun x hx => ⟨by have := h500 x hx; omega, fun y hy => wf8 ((hl.2 x hx).2 y hy)⟩
    rw [if_neg (by decide)]
    by_cases c : (r.length : Int) > 200
    · rw [if_pos c]
    · rw [if_neg c]
      by_cases c' : (r'.length : Int) > 200
      · rw [if_pos c']
      · have hS : InR 8 4294967296 s := InR.of_mem (by decide) hs.1 fun x hx => by have := bounds_u32 (hs.2 x hx); omega
        have hR : ByteL r := fun x hx => wf8 (hr.2 x hx)
        have hN := wf64 hn
        obtain ⟨b, e1, e2⟩ := same_eq s r n s' r' n'
        have hnew : sha_New.f = some (H0, [], 0) := rfl
        have hnew' : drawlotref05_New.f = some (H0, [], 0) := rfl
        rw [if_neg c', bs, if_pos (by simp; omega), sWrite_ok (by omega) hS hR hN.1 hN.2 (by omega) h20 h5, bs, rjoin_ok (by omega) h20 h5, bs, rWrite_ok (by omega) hS hR (flat_byte h5) hN.1 hN.2 (by omega) (flat_len h20 h5), bs, sFinish_ok (by omega) hS hR hN.1 hN.2 (by omega), bs, rFinish_ok (by omega) hS hR hN.1 hN.2 (by omega), bs, rsame_self, bs, if_pos rfl, if_pos rfl, if_pos (eqb_self _ _), if_pos rfl, sright_ok r hN.1 hN.2 (by omega), bs, rright_ok r hN.1 hN.2 (by omega), bs, if_pos (by rw [beq_self_eq_true]), e1, bs, e2, bs, if_pos (by rw [beq_self_eq_true]), hnew, bs, hnew', bs, rsame_self, bs, if_pos rfl, List.nil_append, beq_self_eq_true]
end Go.Proofs.YtkcdcbiobkcpmaaDoor.Pure
end
section
namespace Go.Proofs.YtkcdcbiobkcpmaaDoor.Opn
open Go.RowKit Go.Deep Go.ChangeShapes Go.WideShapes Go.Proofs.YtkcdcbiobkcpmaaDoorW.PrintWords
section
variable {H : Type} {enc : TypeId × Value → H} {P : Program} {w : World} {base : Nat} {spare : Nat → Bool} {held : Bool}
def Opens (enc : TypeId × Value → H) (P : Program) (w : World) (base : Nat) (spare : Nat → Bool) (held : Bool) {α : Type} (d : Kd α) (t : TypeId) (wf : α → Prop) : Prop :=
  ∀ (fuel : Nat) (cs : List Value) (y : DataW H × List MemPlace), DataW.trod enc P w base spare held fuel t cs = some y → ∃ x, d.K w x cs ∧ wf x
theorem opens_int {k : IntKind} {t : TypeId} (ht : P.underlying t = some (.int k)) : Opens enc P w base spare held (Kd.int k) t (fun z => (Lit.int k z).wf = true) := fun fuel cs y h => by
  obtain ⟨z, hz, _, hw⟩ := DataW.trod_int ht h
  exact ⟨z, hz, hw⟩
theorem open_row {α : Type} {d : Kd α} {wf : α → Prop} {t e : TypeId} (ht : P.underlying t = some (.slice e)) (hsz : P.cellsOf e = d.sz) (hel : Opens enc P w base spare held d e wf) {fuel : Nat} {cs : List Value} {y : DataW H × List MemPlace}
    (h : DataW.trod enc P w base spare held fuel t cs = some y) : ∃ (A : Option Addr) (c : Nat) (xs : List α), cs = [.slice A xs.length c] ∧ Kd.C d w A xs.length xs ∧ xs.length ≤ c ∧ (xs.length ≤ maxLen ∧ ∀ x ∈ xs, wf x) := by
  rcases open_slice ht h with ⟨h0, _⟩ | ⟨a, len, cap, m, n, D, Pl, hcs, _, hl, hm, hmm, _, hi⟩
  · exact ⟨none, 0, [], h0, ⟨rfl, by simp, fun hn => by simp at hn⟩, Nat.le_refl _, by unfold maxLen; simp, fun x hx => by cases hx⟩
  · have hlm : len ≤ m := by rw [hmm]; split <;> omega
    have hx : ∀ i : Fin len, ∃ x, (∃ cs', w.cells? base (a.add (i.1 * P.cellsOf e)) (P.cellsOf e) = some cs' ∧ d.K w x cs') ∧ wf x := fun i => by
      obtain ⟨cs', hc, ht'⟩ := hi i.1 (by have := i.2; omega)
      obtain ⟨x, hk, hw⟩ := hel _ _ _ ht'
      exact ⟨x, ⟨cs', hc, hk⟩, hw⟩
    refine ⟨some a, cap, List.ofFn fun i : Fin len => Classical.choose (hx i), ?_, ⟨rfl, ?_, fun _ => ⟨a, rfl, fun j p hj => ?_⟩⟩, ?_, ?_, fun x hxm => ?_⟩
    · rw [List.length_ofFn]; exact hcs
    · rw [List.length_ofFn]; unfold maxLen at hm; omega
    · obtain ⟨hjl, hp⟩ := List.getElem?_eq_some_iff.1 hj
      rw [List.length_ofFn] at hjl
      rw [List.getElem_ofFn] at hp
      subst hp
      obtain ⟨⟨cs', hc, hk⟩, _⟩ := Classical.choose_spec (hx ⟨j, hjl⟩)
      obtain ⟨_, hcl, hat⟩ := World.cells?_some hc
      refine ⟨cs', d.K_len hk, hk, fun i u hu => ?_⟩
      have hil : i < P.cellsOf e := by rw [← hcl]; exact (List.getElem?_eq_some_iff.1 hu).1
      have := hat i hil
      rw [Go.Deep.add_add, hsz] at this
      rw [this]; exact hu
    · rw [List.length_ofFn]; exact hl
    · rw [List.length_ofFn]; omega
    · obtain ⟨i, hil, he⟩ := List.mem_iff_getElem.1 hxm
      rw [List.getElem_ofFn] at he
      subst he
      exact (Classical.choose_spec (hx _)).2
theorem opens_slice {α : Type} {d : Kd α} {wf : α → Prop} {t e : TypeId} (ht : P.underlying t = some (.slice e)) (hsz : P.cellsOf e = d.sz) (hel : Opens enc P w base spare held d e wf) :
    Opens enc P w base spare held (Kd.slice e d) t (fun xs => xs.length ≤ maxLen ∧ ∀ x ∈ xs, wf x) := fun fuel cs y h => by
  obtain ⟨A, c, xs, rfl, hr, hl, hw⟩ := open_row ht hsz hel h
  exact ⟨xs, ⟨A, c, rfl, hl, hr⟩, hw⟩
end
end Go.Proofs.YtkcdcbiobkcpmaaDoor.Opn
end
section
namespace Go.Proofs.YtkcdcbiobkcpmaaDoor.Opn
open Go.RowKit Go.Deep Go.ChangeShapes Go.WideShapes Go.Proofs.YtkcdcbiobkcpmaaDoorW.PrintWords
section
variable {H : Type} {enc : TypeId × Value → H} {P : Program} {w : World} {base : Nat} {spare : Nat → Bool} {held : Bool}
theorem opens_arr {t E : TypeId} {n : Nat} {k : IntKind} (hT : P.underlying t = some (.array n E)) (hk : P.underlying E = some (.int k)) (hc1 : P.cellsOf E = 1) (hcn : P.cellsOf t = n) :
    Opens enc P w base spare held (Ar.K k n) t (fun l => l.length = n ∧ ∀ x ∈ l, (Lit.int k x).wf = true) := fun fuel cs y h => by
  obtain ⟨xs, m, rfl, _, hlen, hxn, hall⟩ := DataW.trod_array hT h
  rw [hcn] at hlen
  have key : ∀ i, i < n → ∃ z, cs[i]? = some (.int k z) ∧ (Lit.int k z).wf = true := fun i hin => by
    have h := hall i hin
    rw [hc1, Nat.mul_one] at h
    obtain ⟨x, hx⟩ : ∃ x, xs[i]? = some x := ⟨_, List.getElem?_eq_getElem (by omega)⟩
    rw [hx] at h
    obtain ⟨z, hz, _, hw⟩ := DataW.trod_int hk h
    refine ⟨z, ?_, hw⟩
    have h2 := congrArg (·[0]?) hz
    simpa [List.getElem?_take, List.getElem?_drop] using h2
  refine ⟨cs.map Ar.intOf, ?_, by simpa using hlen, fun x hx => ?_⟩
  · show cs = (Ar.cells k n (cs.map Ar.intOf)).toList
    have e : Ar.fit n (cs.map Ar.intOf) = cs.map Ar.intOf := Ar.fit_id (by simpa using hlen)
    apply List.ext_getElem?
    intro i
    simp only [Ar.cells, e, nums, List.map_map, List.getElem?_map]
    by_cases hin : i < n
    · obtain ⟨z, hz, _⟩ := key i hin
      simp [hz, Ar.intOf]
    · rw [List.getElem?_eq_none (by omega)]; rfl
  · obtain ⟨v, hv, rfl⟩ := List.mem_map.1 hx
    obtain ⟨i, hin, he⟩ := List.mem_iff_getElem.1 hv
    obtain ⟨z, hz, hw⟩ := key i (by omega)
    have hvz : v = .int k z := by
      rw [List.getElem?_eq_getElem hin, he] at hz
      exact Option.some.inj hz
    rw [hvz]; exact hw
theorem field_ {n : Nat} {fs : Array Field} {cs : List Value} {ys : List (DataW H × List MemPlace)} (hf : ∀ (i : Nat) (f : Field), fs[i]? = some f → DataW.trod enc P w base spare held n f.type ((cs.drop f.offset).take (P.cellsOf f.type)) = ys[i]?) (hy : ys.length = fs.size)
    (i : Nat) (f : Field) (hi : fs[i]? = some f) {o m : Nat} (ho : f.offset = o) (hm : P.cellsOf f.type = m) : ∃ y, DataW.trod enc P w base spare held n f.type ((cs.drop o).take m) = some y := by
  subst ho
  subst hm
  rw [hf i f hi]
  exact ⟨_, List.getElem?_eq_getElem (by rw [hy]; exact (Array.getElem?_eq_some_iff.1 hi).1)⟩
theorem seg_ {α : Type} (cs : List α) {o m : Nat} : cs.drop o = (cs.drop o).take m ++ cs.drop (o + m) := by
  conv => lhs; rw [← List.take_append_drop m (cs.drop o)]
  rw [List.drop_drop]
end
end Go.Proofs.YtkcdcbiobkcpmaaDoor.Opn
end
section
namespace Go.Proofs.YtkcdcbiobkcpmaaDoor.shaWrites
open Go.ChangeShapes Go.WideShapes Go.ChangeAt Go.RowKit
open Go.ChangeMaps (open_string shut_string)
set_option linter.unusedVariables false
theorem own : ownKnob Tryd.prog.godebug = none := by kernel_rfl
theorem laidOut : laidOutB Tryd.prog = true := by kernel_rfl
def IsRow (k : IntKind) (w : World) (a : Option Addr) (len cap : Nat) (zs : List Int) : Prop :=
  (a = none ∧ len = 0 ∧ cap = 0 ∧ zs = []) ∨
  ∃ x, a = some x ∧ len ≤ cap ∧ cap ≤ maxLen ∧ zs.length = cap ∧ (∀ i, i < zs.length → w.cell? (x.add i) = some (.int k (zs.getD i 0))) ∧ ∀ n ∈ zs, (Lit.int k n).wf = true
theorem door_met (os : Os) (args : Array Value) : laidMetH Tryd.prog Rows.shaWritesRow.laid ((World.laidAll Tryd.prog os Rows.shaWritesRow.laid).forCall (fun _ _ => 0) ⟨#[], args, []⟩).memory := by
  rw [MakeChecks.laidMetH_plain _ _ _ (by kernel_rfl)]
  exact laidMet_laidAll _ (by kernel_rfl) (by kernel_rfl)
set_option maxRecDepth 100000 in
theorem lifted (os : Os) (started : os.Started) (H : Type) (enc : TypeId × Value → H) :
    ReturnsInHanded {} Tryd.checked os 4 .any (fun w args => (Rows.shaWritesSpec.pre enc Tryd.prog Tryd.f4 Rows.shaWritesRow.domain false w args ∧ laidMetH Tryd.prog Rows.shaWritesRow.laid w) ∧ sizedMet enc Tryd.prog Tryd.f4 (OpenSpec.ofChange Rows.shaWritesSpec) false w args) (Rows.shaWritesSpec.post enc Tryd.prog Tryd.f4 false true false false) := by
  refine returnsInHanded_of_change_and (C := Tryd.checked) (X := (fun w _ => laidMetH Tryd.prog Rows.shaWritesRow.laid w)) (fun _ _ _ hh h => h.of_heap hh) own started (by kernel_rfl) Tryd.func4
    (ChangeSpec.witness_shaped (enc := enc) (C := Tryd.checked) (os := os) (X := (fun w _ => laidMetH Tryd.prog Rows.shaWritesRow.laid w)) false (World.laidAll Tryd.prog os Rows.shaWritesRow.laid) #[.agg #[.int .u32 0, .int .u32 0, .int .u32 0, .int .u32 0, .int .u32 0, .int .u32 0, .int .u32 0, .int .u32 0, .slice none 0 0, .int .u64 0], .agg #[.int .u32 0, .int .u32 0, .int .u32 0, .int .u32 0, .int .u32 0, .int .u32 0, .int .u32 0, .int .u32 0, .slice none 0 0, .int .u64 0], .slice none 0 0] 8 (World.laidAll_os _ _ _) (World.shaped_of_ZipB (by kernel_rfl) (by kernel_rfl)) (by kernel_rfl) (by kernel_rfl) (by kernel_rfl) (door_met os _)) ?_
  intro W base args ds gs before hval0 hW hcnd hsz0 hL _
  clear hL
  have hsz : (DataW.weightsEach Tryd.prog (Tryd.f4.params.toList ++ Rows.shaWritesSpec.plain.varTypes Tryd.prog) (ds ++ gs)).all (· ≤ reachBytes) = true := hsz0
  have hval : ∀ (j : Nat) t v, Tryd.f4.params[j]? = some t → args[j]? = some v → Value.okWide Tryd.prog W .any base t v := hval0
  have hW' := hW
  obtain ⟨p, q, hA0, hV, rfl, hfz, hnd⟩ := hW
  have hA : DataW.TrodAll enc Tryd.prog W 0 (fun _ => true) true Tryd.f4.params.toList args.toList ds p := hA0
  rw [Tryd.params4] at hA hval hsz
  obtain ⟨v0, vs0, d0, ds0, p0, q0, hargs, rfl, rfl, h0, r0⟩ := trodAll_cons hA
  obtain ⟨v1, vs1, d1, ds1, p1, q1, rfl, rfl, rfl, h1, r1⟩ := trodAll_cons r0
  obtain ⟨v2, vs2, d2, ds2, p2, q2, rfl, rfl, rfl, h2, r2⟩ := trodAll_cons r1
  obtain ⟨rfl, rfl, rfl⟩ := trodAll_nil r2
  obtain rfl : args = #[v0, v1, v2] := by cases args; simp_all
  obtain ⟨rfl, rfl⟩ := trodVars_none hV
  have kk0 := h0
  have lt0 : ∀ x ∈ p0, x.block < W.heap.size := by obtain ⟨m, hm⟩ := kk0; exact DataW.trod_lt m _ _ _ hm
  obtain ⟨cs0, rfl, _⟩ := okWide_struct Tryd.underlying36 (hval 0 36 v0 rfl rfl)
  obtain ⟨fuel0, hff0⟩ := h0
  obtain ⟨ys0, n0_, _, _, hlen0, hyl0, hf0⟩ := DataW.trod_struct Tryd.underlying36 hff0
  have hcl0 : cs0.toList.length = 10 := hlen0.trans (by kernel_rfl)
  obtain ⟨y0_0, e0_0⟩ := Opn.field_ hf0 hyl0 0 _ rfl (o := 0) (m := 8) rfl (by kernel_rfl)
  obtain ⟨a0_0, k0_0, w0_0⟩ := Opn.opens_arr Tryd.underlying33 Tryd.underlying31 (by kernel_rfl) (by kernel_rfl) _ _ _ e0_0
  have g0_0 : (cs0.toList.drop 0).take 8 = (Ar.cells .u32 8 a0_0).toList := k0_0
  obtain ⟨y0_1, e0_1⟩ := Opn.field_ hf0 hyl0 1 _ rfl (o := 8) (m := 1) rfl (by kernel_rfl)
  obtain ⟨A0_1, c0_1, l0_1, g0_1, hr0_1, hl0_1, hw0_1⟩ := Opn.open_row (wf := fun x : Int => (Lit.int .u8 x).wf = true) Tryd.underlying29 (by kernel_rfl) (Opn.opens_int Tryd.underlying5) e0_1
  have w0_1 : Go.Proofs.YtkcdcbiobkcpmaaDoorW.PrintWords.Kd.C (Go.Proofs.YtkcdcbiobkcpmaaDoorW.PrintWords.Kd.int .u8) W A0_1 l0_1.length l0_1 ∧ l0_1.length ≤ c0_1 ∧ (l0_1.length ≤ maxLen ∧ ∀ x ∈ l0_1, (Lit.int .u8 x).wf = true) := ⟨hr0_1, hl0_1, hw0_1⟩
  obtain ⟨y0_2, e0_2⟩ := Opn.field_ hf0 hyl0 2 _ rfl (o := 9) (m := 1) rfl (by kernel_rfl)
  obtain ⟨a0_2, g0_2, _, w0_2⟩ := DataW.trod_int Tryd.underlying34 e0_2
  obtain rfl : cs0 = (Ar.cells .u32 8 a0_0 ++ #[.slice A0_1 l0_1.length c0_1, .int .u64 a0_2]) := by
    have hcs : cs0.toList = ((cs0.toList.drop 0).take 8) ++ (((cs0.toList.drop 8).take 1) ++ (((cs0.toList.drop 9).take 1))) := by
      have z_ : cs0.toList = cs0.toList.drop 0 := rfl
      rw [List.take_of_length_le (i := 1) (l := cs0.toList.drop 9) (by rw [List.length_drop, hcl0]; omega)]
      rw [← Opn.seg_ cs0.toList (o := 8) (m := 1), ← Opn.seg_ cs0.toList (o := 0) (m := 8)]
      exact z_
    apply Array.toList_inj.mp
    simp only [Value.cells] at g0_1
    simp only [Value.cells] at g0_2
    rw [hcs, g0_0, g0_1, g0_2]
    simp [Array.toList_append]
  have kk1 := h1
  have lt1 : ∀ x ∈ p1, x.block < W.heap.size := by obtain ⟨m, hm⟩ := kk1; exact DataW.trod_lt m _ _ _ hm
  obtain ⟨cs1, rfl, _⟩ := okWide_struct Tryd.underlying36 (hval 1 36 v1 rfl rfl)
  obtain ⟨fuel1, hff1⟩ := h1
  obtain ⟨ys1, n1_, _, _, hlen1, hyl1, hf1⟩ := DataW.trod_struct Tryd.underlying36 hff1
  have hcl1 : cs1.toList.length = 10 := hlen1.trans (by kernel_rfl)
  obtain ⟨y1_0, e1_0⟩ := Opn.field_ hf1 hyl1 0 _ rfl (o := 0) (m := 8) rfl (by kernel_rfl)
  obtain ⟨a1_0, k1_0, w1_0⟩ := Opn.opens_arr Tryd.underlying33 Tryd.underlying31 (by kernel_rfl) (by kernel_rfl) _ _ _ e1_0
  have g1_0 : (cs1.toList.drop 0).take 8 = (Ar.cells .u32 8 a1_0).toList := k1_0
  obtain ⟨y1_1, e1_1⟩ := Opn.field_ hf1 hyl1 1 _ rfl (o := 8) (m := 1) rfl (by kernel_rfl)
  obtain ⟨A1_1, c1_1, l1_1, g1_1, hr1_1, hl1_1, hw1_1⟩ := Opn.open_row (wf := fun x : Int => (Lit.int .u8 x).wf = true) Tryd.underlying29 (by kernel_rfl) (Opn.opens_int Tryd.underlying5) e1_1
  have w1_1 : Go.Proofs.YtkcdcbiobkcpmaaDoorW.PrintWords.Kd.C (Go.Proofs.YtkcdcbiobkcpmaaDoorW.PrintWords.Kd.int .u8) W A1_1 l1_1.length l1_1 ∧ l1_1.length ≤ c1_1 ∧ (l1_1.length ≤ maxLen ∧ ∀ x ∈ l1_1, (Lit.int .u8 x).wf = true) := ⟨hr1_1, hl1_1, hw1_1⟩
  obtain ⟨y1_2, e1_2⟩ := Opn.field_ hf1 hyl1 2 _ rfl (o := 9) (m := 1) rfl (by kernel_rfl)
  obtain ⟨a1_2, g1_2, _, w1_2⟩ := DataW.trod_int Tryd.underlying34 e1_2
  obtain rfl : cs1 = (Ar.cells .u32 8 a1_0 ++ #[.slice A1_1 l1_1.length c1_1, .int .u64 a1_2]) := by
    have hcs : cs1.toList = ((cs1.toList.drop 0).take 8) ++ (((cs1.toList.drop 8).take 1) ++ (((cs1.toList.drop 9).take 1))) := by
      have z_ : cs1.toList = cs1.toList.drop 0 := rfl
      rw [List.take_of_length_le (i := 1) (l := cs1.toList.drop 9) (by rw [List.length_drop, hcl1]; omega)]
      rw [← Opn.seg_ cs1.toList (o := 8) (m := 1), ← Opn.seg_ cs1.toList (o := 0) (m := 8)]
      exact z_
    apply Array.toList_inj.mp
    simp only [Value.cells] at g1_1
    simp only [Value.cells] at g1_2
    rw [hcs, g1_0, g1_1, g1_2]
    simp [Array.toList_append]
  have kk2 := h2
  have lt2 : ∀ x ∈ p2, x.block < W.heap.size := by obtain ⟨m, hm⟩ := kk2; exact DataW.trod_lt m _ _ _ hm
  obtain ⟨A2, c2, l2, e2, w2⟩ : ∃ (A2 : Option Addr) (c2 : Nat) (l2 : List (List Int)), v2 = .slice A2 l2.length c2 ∧ Go.Proofs.YtkcdcbiobkcpmaaDoorW.PrintWords.Kd.C (Go.Proofs.YtkcdcbiobkcpmaaDoorW.PrintWords.Kd.slice 5 (Go.Proofs.YtkcdcbiobkcpmaaDoorW.PrintWords.Kd.int .u8)) W A2 l2.length l2 ∧ l2.length ≤ c2 ∧ (l2.length ≤ maxLen ∧ ∀ x ∈ l2, (x.length ≤ maxLen ∧ ∀ x_ ∈ x, (Lit.int .u8 x_).wf = true)) := by
    obtain ⟨a_, len_, cap_, rfl⟩ := okWide_slice Tryd.underlying22 (hval 2 22 v2 rfl rfl)
    obtain ⟨fuel, hf⟩ := h2
    obtain ⟨A, c, xs, he, hr, hl, hw⟩ := Opn.open_row (wf := fun x : List Int => (x.length ≤ maxLen ∧ ∀ x_ ∈ x, (Lit.int .u8 x_).wf = true)) Tryd.underlying22 (by kernel_rfl) (Opn.opens_slice Tryd.underlying29 (by kernel_rfl) (Opn.opens_int Tryd.underlying5)) hf
    exact ⟨A, c, xs, by simpa [Value.cells] using he, hr, hl, hw⟩
  subst e2
  clear hA0 hval0 hsz0 hsz
  refine (PA.drawlotlaw05_ShaWrites.walk Pure.ShaWrites a0_0 A0_1 c0_1 l0_1 a0_2 a1_0 A1_1 c1_1 l1_1 a1_2 A2 c2 l2 W w0_0 w0_1 w0_2 w1_0 w1_1 w1_2 w2).mono fun e W' ⟨he, bel⟩ => ?_
  subst he
  exact ⟨_, rfl, _, _, _, [], _, [], hW', trodAll_mk1 (shut_bool Tryd.underlying4 _), (trodAll_cons_mk (Below.trod laidOut (by kernel_rfl) (of_decide_eq_true (by kernel_rfl)) kk0 bel lt0) (trodAll_cons_mk (Below.trod laidOut (by kernel_rfl) (of_decide_eq_true (by kernel_rfl)) kk1 bel lt1) (trodAll_cons_mk (Below.trod laidOut (by kernel_rfl) (of_decide_eq_true (by kernel_rfl)) kk2 bel lt2) trodAll_mk0))), rfl, bel.frame _, fun h => by cases h⟩
theorem over : Rows.shaWritesRow.holds Tryd.pinned (OpenSpec.ofChange Rows.shaWritesSpec) :=
  OpenClaim.holds_of_wide 4 Tryd.f4 rfl rfl rfl rfl rfl rfl rfl ⟨rfl, rfl, rfl, rfl, rfl⟩ rfl rfl rfl rfl rfl (by kernel_rfl) Tryd.func4 (by kernel_rfl)
    (of_decide_eq_true (by kernel_rfl)) (by unfold Func.isWrapper; first | (rw [if_pos (by decide +kernel)]; kernel_rfl) | (rw [if_neg (by decide +kernel)]; exact ⟨rfl, rfl⟩))
    (fun os started H enc _ => lifted os started H enc)
theorem proved : Rows.ShaWritesCardSaid :=
  Claim7.holds_tied_plain_at .later [] [.data, .pinned] true (true, "311753296e7158f837a4b53852611107cba6fa893b0917bfdbf65c92a330119a") false
    over (fun _ h => by cases h) (by kernel_rfl) (fun _ h => by cases h) shaWrites_row_tie rfl ⟨rfl, rfl⟩ (by kernel_rfl) rfl
    (fun f fn hf hfn => by
      obtain rfl : f = 4 := Option.some.inj ((show Tryd.prog.funcNamed "drawlot/drawlotlaw05.ShaWrites" = some 4 by kernel_rfl).symm.trans hf) |>.symm
      obtain rfl : fn = Tryd.f4 := (Option.some.inj (Tryd.func4.symm.trans hfn)).symm
      exact ⟨by kernel_rfl, fun j t ht => by
        rw [Tryd.params4] at ht
        have hm : t ∈ [36, 36, 22] := by simpa using Array.mem_of_getElem? ht
        have hall : ([36, 36, 22].all fun u => !Tryd.prog.wantsStandIn u) = true := by kernel_rfl
        exact (show Tryd.prog.wantsStandIn t = false by simpa using List.all_eq_true.1 hall t hm)⟩)
    (by kernel_rfl)
#print axioms proved
end Go.Proofs.YtkcdcbiobkcpmaaDoor.shaWrites
namespace Go.Proofs.YtkcdcbiobkcpmaaDoor
theorem shaWrites_holds : Rows.ShaWritesCardSaid := shaWrites.proved
end Go.Proofs.YtkcdcbiobkcpmaaDoor
end
