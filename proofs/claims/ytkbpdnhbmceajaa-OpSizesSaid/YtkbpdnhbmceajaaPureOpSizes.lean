/- Operations have as many bytes as their kinds say; the statement over lists alone. No conditions. -/
import Derived.Test.YtkbpdnhbmceajaaPOx8
import Derived.Test.YtkbpdnhbmceajaaLmOp
namespace Go.Proofs.Ytkbpdnhbmceajaa.Pure
open Go.RowKit Go.Proofs.Ytkbpdnhbmceajaa.PO Go.Proofs.YtkbpdnhbmceajaaW.PrintWords Go.Proofs.YtkbpdnhbmceajaaW.PrintLast Go.Proofs.Ytkbpdnhbmceajaa.Lm
set_option linter.unusedVariables false
set_option linter.unusedSimpArgs false
theorem sizes_loop (l : List S39) (a : List Int) (hn : l.length ≤ 300) (L : List S39) (hd : ∀ k, 400 ≤ k → op_Decode.f k a = some L) (hL : L.length = l.length) (hs : (a.length : Int) = tot l) :
    ∀ (n i : Nat) (acc : Int), i + n = l.length → acc + tot (l.drop i) = tot l → 0 ≤ acc → ∀ k, n + 401 ≤ k → drawlotlaw24_OpSizes.l0 k l a acc (i : Int) = some true := by
  have ht := tot_in l
  intro n
  induction n with
  | zero =>
    intro i acc hi ha h0 k hk
    obtain ⟨k, rfl⟩ : ∃ m, k = m + 1 := ⟨k - 1, by omega⟩
    rw [List.drop_eq_nil_of_le (by omega)] at ha
    rw [drawlotlaw24_OpSizes.l0, if_neg (by omega), if_pos (by simp [tot] at ha hs; unfold tot at *; omega), hd k (by omega), bs, hL]
    simp
  | succ n ih =>
    intro i acc hi ha h0 k hk
    obtain ⟨k, rfl⟩ : ∃ m, k = m + 1 := ⟨k - 1, by omega⟩
    rw [drop39 (by omega), tot_cons] at ha
    have hz := sz_in (rd_T39 l (i : Int)).f0
    have ht2 := tot_in (l.drop (i + 1))
    rw [drawlotlaw24_OpSizes.l0, if_pos (by omega), if_pos (by omega)]
    by_cases h : (flds (rd_T39 l (i : Int)).f0).2 = true
    · have e : sz (rd_T39 l (i : Int)).f0 = 1 + szs (flds (rd_T39 l (i : Int)).f0).1 := by unfold sz; rw [if_pos h]
      rw [size_t h, bs, if_pos rfl, w64_id (by omega) (by omega), w64_id (by omega) (by omega), show (i : Int) + 1 = ((i + 1 : Nat) : Int) by omega]
      exact ih (i + 1) _ (by omega) (by simp only; omega) (by simp only; omega) k (by omega)
    · have e : sz (rd_T39 l (i : Int)).f0 = 1 := by unfold sz; rw [if_neg h]
      rw [size_f h, bs, if_neg (by simp), w64_id (by omega) (by omega), w64_id (by omega) (by omega), show (i : Int) + 1 = ((i + 1 : Nat) : Int) by omega]
      exact ih (i + 1) _ (by omega) (by omega) (by omega) k (by omega)
theorem OpSizes : drawlotlaw24_OpSizes.Pure := by
  intro l hl
  have hL : ∀ x ∈ l, WO x := fun x hx => WO.of (hl.2 x hx)
  clear hl
  refine ⟨1000, ?_⟩
  unfold drawlotlaw24_OpSizes.f
  rw [alive24 _ (by omega), bs, if_pos rfl]
  by_cases h1 : (l.length : Int) > 300
  · rw [if_pos h1]
  rw [if_neg h1]
  rcases enc_ok l hL (by omega) with ⟨a, D, hS, hE⟩ | hE
  · have hs := seg_len l a D hS
    have hd : ∀ k, 400 ≤ k → op_Decode.f k a = some D := by
      intro k hk
      unfold op_Decode.f
      have := dec_seg l a D hS [] (k - l.length) [] (by omega) (by simp; omega)
      rw [show k - l.length + l.length = k by omega, List.append_nil, List.nil_append] at this
      obtain ⟨q, hq⟩ : ∃ q, k - l.length = q + 1 := ⟨k - l.length - 1, by omega⟩
      rw [this, hq, dec_nil]
    rw [hE _ (by omega), bs, if_pos rfl]
    exact sizes_loop l a (by omega) D hd hs.2 hs.1 l.length 0 0 (by omega) (by simp) (by omega) _ (by omega)
  · rw [hE _ (by omega), bs, if_neg (by simp)]
    rfl
end Go.Proofs.Ytkbpdnhbmceajaa.Pure
