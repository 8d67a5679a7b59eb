/- Plain lemmas on the document's decoding of operations: it is the program's. No conditions. -/
import Derived.Test.YtkbpdnhbmceajaaPQx8
import Derived.Test.YtkbpdnhbmceajaaLmOp
import Derived.Test.YtkbpdnhbmceajaaLmBytesR
namespace Go.Proofs.Ytkbpdnhbmceajaa.Lm
open Go.RowKit Go.Proofs.Ytkbpdnhbmceajaa.PQ Go.Proofs.YtkbpdnhbmceajaaW.PrintWords Go.Proofs.YtkbpdnhbmceajaaW.PrintLast Go.Proofs.YtkbpdnhbmceajaaW.PrintMore
set_option linter.unusedVariables false
set_option linter.unusedSimpArgs false

def ch : Fld → Int
  | .h => 104
  | .a => 97
  | .w => 119
  | .n => 110
theorem take4 {b : List Int} (h : 4 ≤ b.length) : b.take 4 = [rd b 0, rd b 1, rd b 2, rd b 3] := by
  match b, h with
  | b0 :: b1 :: b2 :: b3 :: r, _ => rfl
theorem take8 {b : List Int} (h : 8 ≤ b.length) : b.take 8 = [rd b 0, rd b 1, rd b 2, rd b 3, rd b 4, rd b 5, rd b 6, rd b 7] := by
  match b, h with
  | b0 :: b1 :: b2 :: b3 :: b4 :: b5 :: b6 :: b7 :: r, _ => rfl
/-- The document takes a field as the program does. -/
theorem get_take (x : Fld) (o o1 : S39) (b : List Int) (hb : BY b) (hl : x.size ≤ b.length) (k : Nat) (hk : 9 ≤ k) (h1 : takeF k x o (b.take x.size) = some o1) : getF k o (ch x) b = some o1 := by
  cases x with
  | h =>
    show getF k o 104 b = _
    unfold getF
    rw [if_neg (by decide), if_neg (by decide), if_neg (by decide), if_pos rfl, if_pos (show 32 ≤ b.length from hl)]
    exact h1
  | a =>
    have hB : BY [rd b 0, rd b 1, rd b 2, rd b 3, rd b 4, rd b 5, rd b 6, rd b 7] := by rw [← take8 hl]; exact hb.take 8
    replace h1 : (word_Get64.f k (b.take 8)).bind (fun z => some ({ o with f2 := z } : S39)) = some o1 := h1
    rw [take8 hl, get64_ok k hk _ _ _ _ _ _ _ _ hB, bs] at h1
    show getF k o 97 b = _
    unfold getF
    rw [if_neg (by decide), if_neg (by decide), if_pos rfl, if_pos (show 8 ≤ b.length from hl), r01get64_ok k hk _ _ _ _ _ _ _ _ hB, bs]
    exact h1
  | w =>
    have hB : BY [rd b 0, rd b 1, rd b 2, rd b 3] := by rw [← take4 hl]; exact hb.take 4
    have h0 := hB (rd b 0) (by simp)
    have h2 := hB (rd b 1) (by simp)
    have h3 := hB (rd b 2) (by simp)
    have h4 := hB (rd b 3) (by simp)
    replace h1 : (word_Get32.f k (b.take 4)).bind (fun z => if 0 ≤ z ∧ z < 4294967296 then some ({ o with f1 := z } : S39) else none) = some o1 := h1
    rw [take4 hl, get32_ok k (by omega) _ _ _ _ hB, bs, if_pos (by omega)] at h1
    show getF k o 119 b = _
    unfold getF
    rw [if_pos rfl, if_pos (show 4 ≤ b.length from hl), r01get32_ok k (by omega) _ _ _ _ hB, bs, w64_id (by omega) (by omega)]
    exact h1
  | n =>
    have hB : BY [rd b 0, rd b 1, rd b 2, rd b 3] := by rw [← take4 hl]; exact hb.take 4
    have h0 := hB (rd b 0) (by simp)
    have h2 := hB (rd b 1) (by simp)
    have h3 := hB (rd b 2) (by simp)
    have h4 := hB (rd b 3) (by simp)
    replace h1 : (word_Get32.f k (b.take 4)).bind (fun z => if 0 ≤ z ∧ z < 4294967296 then some ({ o with f4 := z } : S39) else none) = some o1 := h1
    rw [take4 hl, get32_ok k (by omega) _ _ _ _ hB, bs, if_pos (by omega)] at h1
    show getF k o 110 b = _
    unfold getF
    rw [if_neg (by decide), if_pos rfl, if_pos (show 4 ≤ b.length from hl), r01get32_ok k (by omega) _ _ _ _ hB, bs, w64_id (by omega) (by omega)]
    exact h1
/-- The fields' letters. -/
def strF (c : Int) : ByteArray := if c = 1 then ⟨#[104, 97]⟩ else if c = 2 then ⟨#[119, 97]⟩ else if c = 3 then ⟨#[119, 97]⟩ else if c = 4 then ⟨#[119, 104]⟩ else if c = 5 then ⟨#[119, 104]⟩ else if c = 6 then ⟨#[45]⟩ else if c = 11 then ⟨#[45]⟩ else if c = 7 then ⟨#[110]⟩ else if c = 8 then ⟨#[110]⟩ else if c = 9 then ⟨#[110, 119]⟩ else if c = 10 then ⟨#[119, 110]⟩ else ⟨#[]⟩
theorem fields_ok (c : Int) (k : Nat) (hk : 5 ≤ k) : drawlotref24_fields.f k c = some (strF c) := by
  obtain ⟨m, rfl⟩ : ∃ m, k = m + 5 := ⟨k - 5, by omega⟩
  by_cases h1 : c = 1
  · subst h1; rfl
  by_cases h2 : c = 2
  · subst h2; rfl
  by_cases h3 : c = 3
  · subst h3; rfl
  by_cases h4 : c = 4
  · subst h4; rfl
  by_cases h5 : c = 5
  · subst h5; rfl
  by_cases h6 : c = 6
  · subst h6; rfl
  by_cases h7 : c = 7
  · subst h7; rfl
  by_cases h8 : c = 8
  · subst h8; rfl
  by_cases h9 : c = 9
  · subst h9; rfl
  by_cases h10 : c = 10
  · subst h10; rfl
  by_cases h11 : c = 11
  · subst h11; rfl
  simp [drawlotref24_fields.f, drawlotref24_fields.j0, drawlotref24_fields.j1, drawlotref24_fields.j2, drawlotref24_fields.j3, strF, h1, h2, h3, h4, h5, h6, h7, h8, h9, h10, h11]
theorem rsize_lit (v X : Int) (h : drawlotref24_Size.f 30 v = some (X, true)) (k : Nat) (hk : 30 ≤ k) : drawlotref24_Size.f k v = some (X, true) := at_rounds (g := fun k => drawlotref24_Size.f k v) (fun k => drawlotref24_Size.mono v k) (k := 30) (k' := k) hk (r := (X, true)) h
/-- The document's size is the program's. -/
theorem rsize_ok (c : Int) (k : Nat) (hk : 30 ≤ k) : drawlotref24_Size.f k c = op_Size.f c := by
  by_cases h1 : c = 1
  · subst h1; rw [rsize_lit 1 41 (by decide +kernel) k hk]; rfl
  by_cases h2 : c = 2
  · subst h2; rw [rsize_lit 2 13 (by decide +kernel) k hk]; rfl
  by_cases h3 : c = 3
  · subst h3; rw [rsize_lit 3 13 (by decide +kernel) k hk]; rfl
  by_cases h4 : c = 4
  · subst h4; rw [rsize_lit 4 37 (by decide +kernel) k hk]; rfl
  by_cases h5 : c = 5
  · subst h5; rw [rsize_lit 5 37 (by decide +kernel) k hk]; rfl
  by_cases h6 : c = 6
  · subst h6; rw [rsize_lit 6 1 (by decide +kernel) k hk]; rfl
  by_cases h7 : c = 7
  · subst h7; rw [rsize_lit 7 5 (by decide +kernel) k hk]; rfl
  by_cases h8 : c = 8
  · subst h8; rw [rsize_lit 8 5 (by decide +kernel) k hk]; rfl
  by_cases h9 : c = 9
  · subst h9; rw [rsize_lit 9 9 (by decide +kernel) k hk]; rfl
  by_cases h10 : c = 10
  · subst h10; rw [rsize_lit 10 9 (by decide +kernel) k hk]; rfl
  by_cases h11 : c = 11
  · subst h11; rw [rsize_lit 11 1 (by decide +kernel) k hk]; rfl
  have e : strF c = ⟨#[]⟩ := by simp [strF, h1, h2, h3, h4, h5, h6, h7, h8, h9, h10, h11]
  have e2 : flds c = ([], false) := by simp [flds, h1, h2, h3, h4, h5, h6, h7, h8, h9, h10, h11]
  unfold drawlotref24_Size.f op_Size.f
  rw [fields_ok c k (by omega), bs, e, if_pos (by decide +kernel), e2, if_neg (by simp)]
/-- One round of the document's decoding is the program's. -/
def Shape (s : ByteArray) : List Fld → Prop
  | [] => s.size = 1 ∧ bt s 0 = 45
  | [x] => s.size = 1 ∧ bt s 0 = ch x
  | [x, y] => s.size = 2 ∧ bt s 0 = ch x ∧ bt s 1 = ch y
  | _ => False
theorem shape_ok (c : Int) (h : (flds c).2 = true) : Shape (strF c) (flds c).1 := by
  by_cases h1 : c = 1
  · subst h1
    show (strF 1).size = 2 ∧ bt (strF 1) 0 = 104 ∧ bt (strF 1) 1 = 97
    decide +kernel
  by_cases h2 : c = 2
  · subst h2
    show (strF 2).size = 2 ∧ bt (strF 2) 0 = 119 ∧ bt (strF 2) 1 = 97
    decide +kernel
  by_cases h3 : c = 3
  · subst h3
    show (strF 3).size = 2 ∧ bt (strF 3) 0 = 119 ∧ bt (strF 3) 1 = 97
    decide +kernel
  by_cases h4 : c = 4
  · subst h4
    show (strF 4).size = 2 ∧ bt (strF 4) 0 = 119 ∧ bt (strF 4) 1 = 104
    decide +kernel
  by_cases h5 : c = 5
  · subst h5
    show (strF 5).size = 2 ∧ bt (strF 5) 0 = 119 ∧ bt (strF 5) 1 = 104
    decide +kernel
  by_cases h6 : c = 6
  · subst h6
    show (strF 6).size = 1 ∧ bt (strF 6) 0 = 45
    decide +kernel
  by_cases h7 : c = 7
  · subst h7
    show (strF 7).size = 1 ∧ bt (strF 7) 0 = 110
    decide +kernel
  by_cases h8 : c = 8
  · subst h8
    show (strF 8).size = 1 ∧ bt (strF 8) 0 = 110
    decide +kernel
  by_cases h9 : c = 9
  · subst h9
    show (strF 9).size = 2 ∧ bt (strF 9) 0 = 110 ∧ bt (strF 9) 1 = 119
    decide +kernel
  by_cases h10 : c = 10
  · subst h10
    show (strF 10).size = 2 ∧ bt (strF 10) 0 = 119 ∧ bt (strF 10) 1 = 110
    decide +kernel
  by_cases h11 : c = 11
  · subst h11
    show (strF 11).size = 1 ∧ bt (strF 11) 0 = 45
    decide +kernel
  simp [flds, h1, h2, h3, h4, h5, h6, h7, h8, h9, h10, h11] at h
end Go.Proofs.Ytkbpdnhbmceajaa.Lm
