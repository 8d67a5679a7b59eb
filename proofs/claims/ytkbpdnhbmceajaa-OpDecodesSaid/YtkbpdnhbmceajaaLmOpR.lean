/- Plain lemmas on the document's decoding of operations: it is the program's. No conditions. -/
import Derived.Test.YtkbpdnhbmceajaaPQx8
import Derived.Test.YtkbpdnhbmceajaaLmOp
import Derived.Test.YtkbpdnhbmceajaaLmBytesR
namespace Go.Proofs.Ytkbpdnhbmceajaa.Lm
open Go.RowKit Go.Proofs.Ytkbpdnhbmceajaa.PQ Go.Proofs.YtkbpdnhbmceajaaW.PrintWords Go.Proofs.YtkbpdnhbmceajaaW.PrintLast Go.Proofs.YtkbpdnhbmceajaaW.PrintMore
set_option linter.unusedVariables false
set_option linter.unusedSimpArgs false

def ch : Fld → Int
  | .h => 104
  | .a => 97
  | .w => 119
  | .n => 110
theorem take4 {b : List Int} (h : 4 ≤ b.length) : b.take 4 = [rd b 0, rd b 1, rd b 2, rd b 3] := by
  match b, h with
  | b0 :: b1 :: b2 :: b3 :: r, _ => rfl
theorem take8 {b : List Int} (h : 8 ≤ b.length) : b.take 8 = [rd b 0, rd b 1, rd b 2, rd b 3, rd b 4, rd b 5, rd b 6, rd b 7] := by
  match b, h with
  | b0 :: b1 :: b2 :: b3 :: b4 :: b5 :: b6 :: b7 :: r, _ => rfl
/-- The document takes a field as the program does. -/
theorem get_take (x : Fld) (o o1 : S39) (b : List Int) (hb : BY b) (hl : x.size ≤ b.length) (k : Nat) (hk : 9 ≤ k) (h1 : takeF k x o (b.take x.size) = some o1) : getF k o (ch x) b = some o1 := by
  cases x with
  | h =>
    show getF k o 104 b = _
    unfold getF
    rw [if_neg (by decide), if_neg (by decide), if_neg (by decide), if_pos rfl, if_pos (show 32 ≤ b.length from hl)]
    exact h1
  | a =>
    have hB : BY [rd b 0, rd b 1, rd b 2, rd b 3, rd b 4, rd b 5, rd b 6, rd b 7] := by rw [← take8 hl]; exact hb.take 8
    replace h1 : (word_Get64.f k (b.take 8)).bind (fun z => some ({ o with f2 := z } : S39)) = some o1 := h1
    rw [take8 hl, get64_ok k hk _ _ _ _ _ _ _ _ hB, bs] at h1
    show getF k o 97 b = _
    unfold getF
    rw [if_neg (by decide), if_neg (by decide), if_pos rfl, if_pos (show 8 ≤ b.length from hl), r01get64_ok k hk _ _ _ _ _ _ _ _ hB, bs]
    exact h1
  | w =>
    have hB : BY [rd b 0, rd b 1, rd b 2, rd b 3] := by rw [← take4 hl]; exact hb.take 4
    have h0 := hB (rd b 0) (by simp)
    have h2 := hB (rd b 1) (by simp)
    have h3 := hB (rd b 2) (by simp)
    have h4 := hB (rd b 3) (by simp)
    replace h1 : (word_Get32.f k (b.take 4)).bind (fun z => if 0 ≤ z ∧ z < 4294967296 then some ({ o with f1 := z } : S39) else none) = some o1 := h1
    rw [take4 hl, get32_ok k (by omega) _ _ _ _ hB, bs, if_pos (by omega)] at h1
    show getF k o 119 b = _
    unfold getF
    rw [if_pos rfl, if_pos (show 4 ≤ b.length from hl), r01get32_ok k (by omega) _ _ _ _ hB, bs, w64_id (by omega) (by omega)]
    exact h1
  | n =>
    have hB : BY [rd b 0, rd b 1, rd b 2, rd b 3] := by rw [← take4 hl]; exact hb.take 4
    have h0 := hB (rd b 0) (by simp)
    have h2 := hB (rd b 1) (by simp)
    have h3 := hB (rd b 2) (by simp)
    have h4 := hB (rd b 3) (by simp)
    replace h1 : (word_Get32.f k (b.take 4)).bind (fun z => if 0 ≤ z ∧ z < 4294967296 then some ({ o with f4 := z } : S39) else none) = some o1 := h1
    rw [take4 hl, get32_ok k (by omega) _ _ _ _ hB, bs, if_pos (by omega)] at h1
    show getF k o 110 b = _
    unfold getF
    rw [if_neg (by decide), if_pos rfl, if_pos (show 4 ≤ b.length from hl), r01get32_ok k (by omega) _ _ _ _ hB, bs, w64_id (by omega) (by omega)]
    exact h1
theorem long_ok (x : Fld) (k : Nat) (hk : 1 ≤ k) : drawlotref24_long.f k (ch x) = some (x.size : Int) := by
  obtain ⟨m, rfl⟩ : ∃ m, k = m + 1 := ⟨k - 1, by omega⟩
  cases x <;> rfl
theorem long_none (k : Nat) (hk : 1 ≤ k) : drawlotref24_long.f k 45 = some 0 := by
  obtain ⟨m, rfl⟩ : ∃ m, k = m + 1 := ⟨k - 1, by omega⟩
  rfl
theorem l1_step {k : Nat} (hk : 20 ≤ k) {t : List Int} {acc : List S39} {x5 at_ : Int} {s : ByteArray} {i : Int} {o o1 : S39} (c l : Int) (h0 : 0 ≤ i) (hi : i < (s.size : Int)) (hc : bt s i = c) (hs : (s.size : Int) < 1000) (ha : 0 ≤ at_ ∧ at_ ≤ (t.length : Int)) (hl0 : 0 ≤ l ∧ l < 100) (hal : at_ < 1000000) (hg : getF k o c (t.drop at_.toNat) = some o1) (hl : drawlotref24_long.f k c = some l) :
    drawlotref24_Decode.l1 (k + 1) t acc x5 at_ s i o.f0 o.f1 o.f2 o.f3 o.f4 = drawlotref24_Decode.l1 k t acc x5 (at_ + l) s (i + 1) o1.f0 o1.f1 o1.f2 o1.f3 o1.f4 := by
  have e : drawlotref24_get.f k o.f0 o.f1 o.f2 o.f3 o.f4 c (t.drop at_.toNat) = some (o1.f0, o1.f1, o1.f2, o1.f3, o1.f4) := by
    unfold drawlotref24_get.f
    rw [show getF k ⟨o.f0, o.f1, o.f2, o.f3, o.f4⟩ c (t.drop at_.toNat) = some o1 from hg, bs]
  rw [drawlotref24_Decode.l1, if_pos hi, if_pos h0, if_pos ha.1, if_pos ha.2, hc, e, bs, hl, bs, w64_id (by omega) (by omega), w64_id (by omega) (by omega)]
theorem l1_end {k : Nat} {t : List Int} {acc : List S39} {x5 at_ : Int} {s : ByteArray} {i : Int} {o : S39} (hi : ¬ i < (s.size : Int)) (h5 : 0 ≤ x5 ∧ x5 ≤ (t.length : Int)) (hacc : acc.length < 2199023255552) :
    drawlotref24_Decode.l1 (k + 1) t acc x5 at_ s i o.f0 o.f1 o.f2 o.f3 o.f4 = drawlotref24_Decode.l0 k (t.drop x5.toNat) (acc ++ [o]) := by
  rw [drawlotref24_Decode.l1, if_neg hi, if_pos hacc, if_pos h5.1, if_pos h5.2]
/-- The fields' letters. -/
def strF (c : Int) : ByteArray := if c = 1 then ⟨#[104, 97]⟩ else if c = 2 then ⟨#[119, 97]⟩ else if c = 3 then ⟨#[119, 97]⟩ else if c = 4 then ⟨#[119, 104]⟩ else if c = 5 then ⟨#[119, 104]⟩ else if c = 6 then ⟨#[45]⟩ else if c = 11 then ⟨#[45]⟩ else if c = 7 then ⟨#[110]⟩ else if c = 8 then ⟨#[110]⟩ else if c = 9 then ⟨#[110, 119]⟩ else if c = 10 then ⟨#[119, 110]⟩ else ⟨#[]⟩
theorem fields_ok (c : Int) (k : Nat) (hk : 5 ≤ k) : drawlotref24_fields.f k c = some (strF c) := by
  obtain ⟨m, rfl⟩ : ∃ m, k = m + 5 := ⟨k - 5, by omega⟩
  by_cases h1 : c = 1
  · subst h1; rfl
  by_cases h2 : c = 2
  · subst h2; rfl
  by_cases h3 : c = 3
  · subst h3; rfl
  by_cases h4 : c = 4
  · subst h4; rfl
  by_cases h5 : c = 5
  · subst h5; rfl
  by_cases h6 : c = 6
  · subst h6; rfl
  by_cases h7 : c = 7
  · subst h7; rfl
  by_cases h8 : c = 8
  · subst h8; rfl
  by_cases h9 : c = 9
  · subst h9; rfl
  by_cases h10 : c = 10
  · subst h10; rfl
  by_cases h11 : c = 11
  · subst h11; rfl
  simp [drawlotref24_fields.f, drawlotref24_fields.j0, drawlotref24_fields.j1, drawlotref24_fields.j2, drawlotref24_fields.j3, strF, h1, h2, h3, h4, h5, h6, h7, h8, h9, h10, h11]
theorem rsize_lit (v X : Int) (h : drawlotref24_Size.f 30 v = some (X, true)) (k : Nat) (hk : 30 ≤ k) : drawlotref24_Size.f k v = some (X, true) := at_rounds (g := fun k => drawlotref24_Size.f k v) (fun k => drawlotref24_Size.mono v k) (k := 30) (k' := k) hk (r := (X, true)) h
/-- The document's size is the program's. -/
theorem rsize_ok (c : Int) (k : Nat) (hk : 30 ≤ k) : drawlotref24_Size.f k c = op_Size.f c := by
  by_cases h1 : c = 1
  · subst h1; rw [rsize_lit 1 41 (by decide +kernel) k hk]; rfl
  by_cases h2 : c = 2
  · subst h2; rw [rsize_lit 2 13 (by decide +kernel) k hk]; rfl
  by_cases h3 : c = 3
  · subst h3; rw [rsize_lit 3 13 (by decide +kernel) k hk]; rfl
  by_cases h4 : c = 4
  · subst h4; rw [rsize_lit 4 37 (by decide +kernel) k hk]; rfl
  by_cases h5 : c = 5
  · subst h5; rw [rsize_lit 5 37 (by decide +kernel) k hk]; rfl
  by_cases h6 : c = 6
  · subst h6; rw [rsize_lit 6 1 (by decide +kernel) k hk]; rfl
  by_cases h7 : c = 7
  · subst h7; rw [rsize_lit 7 5 (by decide +kernel) k hk]; rfl
  by_cases h8 : c = 8
  · subst h8; rw [rsize_lit 8 5 (by decide +kernel) k hk]; rfl
  by_cases h9 : c = 9
  · subst h9; rw [rsize_lit 9 9 (by decide +kernel) k hk]; rfl
  by_cases h10 : c = 10
  · subst h10; rw [rsize_lit 10 9 (by decide +kernel) k hk]; rfl
  by_cases h11 : c = 11
  · subst h11; rw [rsize_lit 11 1 (by decide +kernel) k hk]; rfl
  have e : strF c = ⟨#[]⟩ := by simp [strF, h1, h2, h3, h4, h5, h6, h7, h8, h9, h10, h11]
  have e2 : flds c = ([], false) := by simp [flds, h1, h2, h3, h4, h5, h6, h7, h8, h9, h10, h11]
  unfold drawlotref24_Size.f op_Size.f
  rw [fields_ok c k (by omega), bs, e, if_pos (by decide +kernel), e2, if_neg (by simp)]
/-- One round of the document's decoding is the program's. -/
def Shape (s : ByteArray) : List Fld → Prop
  | [] => s.size = 1 ∧ bt s 0 = 45
  | [x] => s.size = 1 ∧ bt s 0 = ch x
  | [x, y] => s.size = 2 ∧ bt s 0 = ch x ∧ bt s 1 = ch y
  | _ => False
theorem shape_ok (c : Int) (h : (flds c).2 = true) : Shape (strF c) (flds c).1 := by
  by_cases h1 : c = 1
  · subst h1
    show (strF 1).size = 2 ∧ bt (strF 1) 0 = 104 ∧ bt (strF 1) 1 = 97
    decide +kernel
  by_cases h2 : c = 2
  · subst h2
    show (strF 2).size = 2 ∧ bt (strF 2) 0 = 119 ∧ bt (strF 2) 1 = 97
    decide +kernel
  by_cases h3 : c = 3
  · subst h3
    show (strF 3).size = 2 ∧ bt (strF 3) 0 = 119 ∧ bt (strF 3) 1 = 97
    decide +kernel
  by_cases h4 : c = 4
  · subst h4
    show (strF 4).size = 2 ∧ bt (strF 4) 0 = 119 ∧ bt (strF 4) 1 = 104
    decide +kernel
  by_cases h5 : c = 5
  · subst h5
    show (strF 5).size = 2 ∧ bt (strF 5) 0 = 119 ∧ bt (strF 5) 1 = 104
    decide +kernel
  by_cases h6 : c = 6
  · subst h6
    show (strF 6).size = 1 ∧ bt (strF 6) 0 = 45
    decide +kernel
  by_cases h7 : c = 7
  · subst h7
    show (strF 7).size = 1 ∧ bt (strF 7) 0 = 110
    decide +kernel
  by_cases h8 : c = 8
  · subst h8
    show (strF 8).size = 1 ∧ bt (strF 8) 0 = 110
    decide +kernel
  by_cases h9 : c = 9
  · subst h9
    show (strF 9).size = 2 ∧ bt (strF 9) 0 = 110 ∧ bt (strF 9) 1 = 119
    decide +kernel
  by_cases h10 : c = 10
  · subst h10
    show (strF 10).size = 2 ∧ bt (strF 10) 0 = 119 ∧ bt (strF 10) 1 = 110
    decide +kernel
  by_cases h11 : c = 11
  · subst h11
    show (strF 11).size = 1 ∧ bt (strF 11) 0 = 45
    decide +kernel
  simp [flds, h1, h2, h3, h4, h5, h6, h7, h8, h9, h10, h11] at h
theorem l1_all (L : List Fld) (s : ByteArray) (hS : Shape s L) (o : S39) (ho : o.f3.length = 32) (t : List Int) (hb : BY t) (ht : 1 + szs L ≤ (t.length : Int)) (hx : t.length < 1000000) :
    ∃ o1, (∀ k, 9 ≤ k → op_one.l k L o (t.drop 1) = some (o1, t.drop (1 + szs L).toNat)) ∧ ∀ k acc, 20 ≤ k → acc.length < 2199023255552 → drawlotref24_Decode.l1 (k + 4) t acc (1 + szs L) 1 s 0 o.f0 o.f1 o.f2 o.f3 o.f4 = drawlotref24_Decode.l0 (k + 3 - s.size) (t.drop (1 + szs L).toNat) (acc ++ [o1]) := by
  match L, hS with
  | [], hS =>
    refine ⟨o, fun k hk => ?_, fun k acc hk hacc => ?_⟩
    · show some (o, t.drop 1) = _
      simp [szs]
    · have ha : szs [] = 0 := by simp [szs]
      rw [ha] at ht ⊢
      rw [l1_step (o1 := o) (by omega) 45 0 (by omega) (by rw [hS.1]; omega) hS.2 (by rw [hS.1]; decide) (by omega) (by omega) (by omega) (by unfold getF; rw [if_neg (by decide), if_neg (by decide), if_neg (by decide), if_neg (by decide)]) (long_none _ (by omega)),
        l1_end (by rw [hS.1]; omega) (by omega) hacc, hS.1]
      rfl
  | [x], hS =>
    have hz : szs [x] = x.size := by simp [szs]
    rw [hz] at ht ⊢
    obtain ⟨o1, h1, h2⟩ := take_total x o ((t.drop 1).take x.size) ((hb.drop 1).take _) (by rw [List.length_take, List.length_drop]; omega) ho
    have hlx : x.size < 100 := by cases x <;> decide
    refine ⟨o1, fun k hk => ?_, fun k acc hk hacc => ?_⟩
    · show (if x.size ≤ (t.drop 1).length then (takeF k x o ((t.drop 1).take x.size)).bind (fun o1 => op_one.l k [] o1 ((t.drop 1).drop x.size)) else none) = _
      rw [if_pos (by rw [List.length_drop]; omega), h1 k hk, bs]
      show some (o1, (t.drop 1).drop x.size) = _
      rw [List.drop_drop, show (1 + (x.size : Int)).toNat = 1 + x.size by omega]
    · rw [l1_step (o1 := o1) (by omega) (ch x) x.size (by omega) (by rw [hS.1]; omega) hS.2 (by rw [hS.1]; decide) (by omega) (by omega) (by omega) (get_take x o o1 _ (hb.drop 1) (by rw [List.length_drop]; omega) _ (by omega) (h1 _ (by omega))) (long_ok x _ (by omega)),
        l1_end (by rw [hS.1]; omega) (by omega) hacc, hS.1]
      rfl
  | [x, y], hS =>
    have hz : szs [x, y] = x.size + y.size := by simp [szs]
    rw [hz] at ht ⊢
    have hlx : x.size < 100 := by cases x <;> decide
    have hly : y.size < 100 := by cases y <;> decide
    obtain ⟨o1, h1, h2⟩ := take_total x o ((t.drop 1).take x.size) ((hb.drop 1).take _) (by rw [List.length_take, List.length_drop]; omega) ho
    obtain ⟨o2, h3, h4⟩ := take_total y o1 (((t.drop 1).drop x.size).take y.size) (((hb.drop 1).drop _).take _) (by rw [List.length_take, List.length_drop, List.length_drop]; omega) h2
    refine ⟨o2, fun k hk => ?_, fun k acc hk hacc => ?_⟩
    · show (if x.size ≤ (t.drop 1).length then (takeF k x o ((t.drop 1).take x.size)).bind (fun o1 => if y.size ≤ ((t.drop 1).drop x.size).length then (takeF k y o1 (((t.drop 1).drop x.size).take y.size)).bind (fun o2 => op_one.l k [] o2 (((t.drop 1).drop x.size).drop y.size)) else none) else none) = _
      rw [if_pos (by rw [List.length_drop]; omega), h1 k hk, bs, if_pos (by rw [List.length_drop, List.length_drop]; omega), h3 k hk, bs]
      show some (o2, ((t.drop 1).drop x.size).drop y.size) = _
      rw [List.drop_drop, List.drop_drop, show (1 + ((x.size : Int) + y.size)).toNat = 1 + (x.size + y.size) by omega]
    · rw [l1_step (o1 := o1) (by omega) (ch x) x.size (by omega) (by rw [hS.1]; omega) hS.2.1 (by rw [hS.1]; decide) (by omega) (by omega) (by omega) (get_take x o o1 _ (hb.drop 1) (by rw [List.length_drop]; omega) _ (by omega) (h1 _ (by omega))) (long_ok x _ (by omega)),
        show (0 : Int) + 1 = 1 from rfl, l1_step (o1 := o2) (by omega) (ch y) y.size (by omega) (by rw [hS.1]; omega) hS.2.2 (by rw [hS.1]; decide) (by omega) (by omega) (by omega) (by
          rw [show (1 + (x.size : Int)).toNat = 1 + x.size by omega, ← List.drop_drop]
          exact get_take y o1 o2 _ ((hb.drop 1).drop _) (by rw [List.length_drop, List.length_drop]; omega) _ (by omega) (h3 _ (by omega))) (long_ok y _ (by omega)),
        l1_end (by rw [hS.1]; omega) (by omega) hacc, hS.1]
      rfl
theorem rdec_total : ∀ (n : Nat) (t : List Int), t.length ≤ n → t.length < 1000000 → BY t → ∃ D : List S39, D.length ≤ t.length ∧ (∀ k acc, n + 10 ≤ k → acc.length + t.length < 2000000000000 → op_Decode.l0 k t acc = some (acc ++ D)) ∧ ∀ k acc, 10 * n + 100 ≤ k → acc.length + t.length < 2000000000000 → drawlotref24_Decode.l0 k t acc = some (acc ++ D) := by
  intro n
  induction n with
  | zero =>
    intro t ht _ _
    obtain rfl := List.eq_nil_of_length_eq_zero (by omega : t.length = 0)
    refine ⟨[], by simp, fun k acc hk _ => ?_, fun k acc hk _ => ?_⟩
    · obtain ⟨k, rfl⟩ : ∃ m, k = m + 1 := ⟨k - 1, by omega⟩
      rw [dec_nil, List.append_nil]
    · obtain ⟨k, rfl⟩ : ∃ m, k = m + 1 := ⟨k - 1, by omega⟩
      rw [drawlotref24_Decode.l0, if_neg (by simp), List.append_nil]
  | succ n ih =>
    intro t ht hx hb
    by_cases h0 : t.length = 0
    · obtain rfl := List.eq_nil_of_length_eq_zero h0
      refine ⟨[], by simp, fun k acc hk _ => ?_, fun k acc hk _ => ?_⟩
      · obtain ⟨k, rfl⟩ : ∃ m, k = m + 1 := ⟨k - 1, by omega⟩
        rw [dec_nil, List.append_nil]
      · obtain ⟨k, rfl⟩ : ∃ m, k = m + 1 := ⟨k - 1, by omega⟩
        rw [drawlotref24_Decode.l0, if_neg (by simp), List.append_nil]
    by_cases hf : (flds (wrap64 (rd t 0))).2 = true
    · have hnn := szs_nn (flds (wrap64 (rd t 0))).1
      by_cases hs : 1 + szs (flds (wrap64 (rd t 0))).1 ≤ (t.length : Int)
      · obtain ⟨o1, h1, h2⟩ := l1_all _ _ (shape_ok _ hf) (opN (wrap64 (rd t 0)) 0) (by simp [opN]) t hb hs hx
        have hsz : (strF (wrap64 (rd t 0))).size ≤ 2 := by
          have := shape_ok _ hf
          generalize (flds (wrap64 (rd t 0))).1 = L at this
          match L, this with
          | [], h => rw [h.1]; decide
          | [x], h => rw [h.1]; decide
          | [x, y], h => rw [h.1]; decide
        have hg : ∀ k, 9 ≤ k → op_one.g k t = some (o1, t.drop (1 + szs (flds (wrap64 (rd t 0))).1).toNat) := fun k hk => by
          unfold op_one.g
          rw [if_pos (by omega), if_pos hf, whole_t (by omega) hf, bs, if_pos (by simpa using hs), h1 k hk]
        obtain ⟨D, hD, h3, h4⟩ := ih (t.drop (1 + szs (flds (wrap64 (rd t 0))).1).toNat) (by rw [List.length_drop]; omega) (by rw [List.length_drop]; omega) (hb.drop _)
        rw [List.length_drop] at hD
        refine ⟨o1 :: D, by rw [List.length_cons]; omega, fun k acc hk ha => ?_, fun k acc hk ha => ?_⟩
        · obtain ⟨k, rfl⟩ : ∃ m, k = m + 1 := ⟨k - 1, by omega⟩
          rw [dec_step (by omega) (hg k (by omega)) (by omega), h3 k _ (by omega) (by rw [List.length_drop]; simp; omega)]
          simp
        · obtain ⟨k, rfl⟩ : ∃ m, k = m + 5 := ⟨k - 5, by omega⟩
          rw [drawlotref24_Decode.l0, if_pos (by omega), if_pos (by omega), rsize_ok _ _ (by omega), size_t hf, bs, if_pos rfl, if_neg (by simp only; omega), fields_ok _ _ (by omega), bs]
          refine (h2 k acc (by omega) (by omega)).trans ?_
          rw [h4 _ _ (by omega) (by rw [List.length_drop]; simp; omega)]
          simp
      · refine ⟨[opN 0 (wrap64 (rd t 0))], by simp; omega, fun k acc hk ha => ?_, fun k acc hk ha => ?_⟩
        · obtain ⟨k, rfl⟩ : ∃ m, k = m + 2 := ⟨k - 2, by omega⟩
          rw [dec_step (k := k + 1) (by omega) (by
            unfold op_one.g
            rw [if_pos (by omega), if_pos hf, whole_t (by omega) hf, bs, if_neg (by simpa using hs)]) (by omega), dec_nil]
        · obtain ⟨k, rfl⟩ : ∃ m, k = m + 1 := ⟨k - 1, by omega⟩
          rw [drawlotref24_Decode.l0, if_pos (by omega), if_pos (by omega), rsize_ok _ _ (by omega), size_t hf, bs, if_pos rfl, if_pos (by simp only; omega), if_pos (by omega)]
    · obtain ⟨D, hD, h3, h4⟩ := ih (t.drop 1) (by rw [List.length_drop]; omega) (by rw [List.length_drop]; omega) (hb.drop _)
      rw [List.length_drop] at hD
      refine ⟨opN 0 (wrap64 (rd t 0)) :: D, by rw [List.length_cons]; omega, fun k acc hk ha => ?_, fun k acc hk ha => ?_⟩
      · obtain ⟨k, rfl⟩ : ∃ m, k = m + 1 := ⟨k - 1, by omega⟩
        rw [dec_step (by omega) (by
          unfold op_one.g
          rw [if_pos (by omega), if_neg hf]) (by omega), h3 k _ (by omega) (by rw [List.length_drop]; simp; omega)]
        simp
      · obtain ⟨k, rfl⟩ : ∃ m, k = m + 1 := ⟨k - 1, by omega⟩
        rw [drawlotref24_Decode.l0, if_pos (by omega), if_pos (by omega), rsize_ok _ _ (by omega), size_f hf, bs, if_neg (by simp), if_pos (by omega), if_pos (by omega)]
        refine (h4 k (acc ++ [opN 0 (wrap64 (rd t 0))]) (by omega) (by rw [List.length_drop]; simp; omega)).trans ?_
        simp
end Go.Proofs.Ytkbpdnhbmceajaa.Lm
