/- The bytes of any operations, and whether they are right, are the document's, or refused; the statement over lists alone. No conditions. -/
import Derived.Test.YtkbpdnhbmceajaaPQx14
import Derived.Test.YtkbpdnhbmceajaaLmOpG
namespace Go.Proofs.Ytkbpdnhbmceajaa.Pure
open Go.RowKit Go.Proofs.Ytkbpdnhbmceajaa.PQ Go.Proofs.YtkbpdnhbmceajaaW.PrintWords Go.Proofs.YtkbpdnhbmceajaaW.PrintLast Go.Proofs.Ytkbpdnhbmceajaa.Lm
set_option linter.unusedVariables false
set_option linter.unusedSimpArgs false
def eqL : List S39 → List S39 → Bool
  | x :: X, y :: Y => eqS39 x y && eqL X Y
  | _, _ => true
theorem eqL_step {X Y : List S39} {i : Nat} (h1 : i < X.length) (h2 : i < Y.length) : eqL (X.drop i) (Y.drop i) = (eqS39 (rd_T39 X (i : Int)) (rd_T39 Y (i : Int)) && eqL (X.drop (i + 1)) (Y.drop (i + 1))) := by
  rw [drop39 h1, drop39 h2, eqL]
theorem psame_loop (X Y : List S39) (hl : X.length = Y.length) (hs : X.length < 1000000) : ∀ (n i k : Nat), i + n = X.length → n + 1 ≤ k → api_Op.l0 k X Y (X.length : Int) (i : Int) = some (eqL (X.drop i) (Y.drop i)) := by
  intro n
  induction n with
  | zero =>
    intro i k hi hk
    obtain ⟨k, rfl⟩ : ∃ m, k = m + 1 := ⟨k - 1, by omega⟩
    rw [api_Op.l0, if_neg (by omega), List.drop_eq_nil_of_le (by omega), eqL]
    simp
  | succ n ih =>
    intro i k hi hk
    obtain ⟨k, rfl⟩ : ∃ m, k = m + 1 := ⟨k - 1, by omega⟩
    rw [api_Op.l0, if_pos (by omega), if_pos (by omega), if_pos (by omega), if_pos (by omega), eqL_step (by omega) (by omega)]
    by_cases h : eqS39 (rd_T39 X (i : Int)) (rd_T39 Y (i : Int)) = true
    · rw [if_pos h, h, w64_id (by omega) (by omega), Bool.true_and]
      exact ih (i + 1) k (by omega) (by omega)
    · rw [if_neg h, Bool.eq_false_iff.mpr h, Bool.false_and]
theorem rsame_loop2 (X Y : List S39) (hl : X.length = Y.length) (hs : X.length < 1000000) : ∀ (n i k : Nat), i + n = X.length → n + 1 ≤ k → drawlotref24_Same.l0 k X Y (i : Int) = some (eqL (X.drop i) (Y.drop i)) := by
  intro n
  induction n with
  | zero =>
    intro i k hi hk
    obtain ⟨k, rfl⟩ : ∃ m, k = m + 1 := ⟨k - 1, by omega⟩
    rw [drawlotref24_Same.l0, if_neg (by omega), List.drop_eq_nil_of_le (by omega), eqL]
    simp
  | succ n ih =>
    intro i k hi hk
    obtain ⟨k, rfl⟩ : ∃ m, k = m + 1 := ⟨k - 1, by omega⟩
    rw [drawlotref24_Same.l0, if_pos (by omega), if_pos (by omega), if_pos (by omega), eqL_step (by omega) (by omega)]
    by_cases h : eqS39 (rd_T39 X (i : Int)) (rd_T39 Y (i : Int)) = true
    · rw [if_pos h, h, w64_id (by omega) (by omega), Bool.true_and]
      exact ih (i + 1) k (by omega) (by omega)
    · rw [if_neg h, Bool.eq_false_iff.mpr h, Bool.false_and]
theorem same_both (X Y : List S39) (hs : X.length < 1000000) (k : Nat) (hk : X.length + 1 ≤ k) : ∃ b, op_Same.f k X Y = some b ∧ drawlotref24_Same.f k X Y = some b := by
  by_cases h : (X.length : Int) = (Y.length : Int)
  · refine ⟨eqL (X.drop 0) (Y.drop 0), ?_, ?_⟩
    · unfold op_Same.f api_Op.f
      rw [if_pos h, show (0 : Int) = ((0 : Nat) : Int) from rfl, psame_loop X Y (by omega) hs X.length 0 k (by omega) hk, bs]
    · unfold drawlotref24_Same.f
      rw [if_pos h, show (0 : Int) = ((0 : Nat) : Int) from rfl, rsame_loop2 X Y (by omega) hs X.length 0 k (by omega) hk]
  · refine ⟨false, ?_, ?_⟩
    · unfold op_Same.f api_Op.f
      rw [if_neg h, bs]
    · unfold drawlotref24_Same.f
      rw [if_neg h]
theorem last_loop (l m : List S39) (hl : ∀ x ∈ l, WF x) (hn : l.length ≤ 300) (a : List Int) (e n : Int) (ok : Bool) : ∀ (d i k : Nat), i + d = l.length → d + 400 ≤ k → drawlotlaw24_OpEncodes.l0 k l m a e a e n ok n ok (i : Int) = some true := by
  intro d
  induction d with
  | zero =>
    intro i k hi hk
    obtain ⟨k, rfl⟩ : ∃ m, k = m + 1 := ⟨k - 1, by omega⟩
    obtain ⟨b, h1, h2⟩ := same_both l m (by omega) k (by omega)
    rw [drawlotlaw24_OpEncodes.l0, if_neg (by omega), if_pos rfl, if_pos rfl, if_pos rfl, if_pos (by simp), h1, bs, h2, bs]
    simp
  | succ d ih =>
    intro i k hi hk
    obtain ⟨k, rfl⟩ : ∃ m, k = m + 1 := ⟨k - 1, by omega⟩
    have hw := hl _ (rd39_mem (l := l) (i := i) (by omega))
    rw [drawlotlaw24_OpEncodes.l0, if_pos (by omega), if_pos (by omega), right_eq _ hw k (by omega), bs, rright_eq _ hw k (by omega), bs, if_neg (by simp), w64_id (by omega) (by omega)]
    exact ih (i + 1) k (by omega) (by omega)
theorem OpEncodes : drawlotlaw24_OpEncodes.Pure := by
  intro l m c hl _ hc
  have hL : ∀ x ∈ l, WF x := fun x hx => WF.of (hl.2 x hx)
  clear hl
  refine ⟨40000, ?_⟩
  unfold drawlotlaw24_OpEncodes.f
  rw [alive24 _ (by omega), bs, if_pos rfl]
  by_cases h1 : (l.length : Int) > 300
  · rw [if_pos h1]
  by_cases h2 : (m.length : Int) > 300
  · rw [if_neg h1, if_pos h2]
  rw [if_neg h1, if_neg h2]
  have hE : op_Encode.f 40000 l = some (encF [] l) := by
    unfold op_Encode.f
    exact enc_all l hL (by omega) l.length 0 (by omega) _ [] (by omega) (by simp; omega)
  have hR : drawlotref24_Encode.f 40000 l = some (encF [] l) := by
    unfold drawlotref24_Encode.f
    obtain ⟨q, hq, h⟩ := renc_all l hL (by omega) l.length 0 (by omega) [] (by simp; omega)
    exact h _ (by omega)
  have hz : ∃ n ok, op_Size.f c = some (n, ok) := by
    by_cases h2 : (flds c).2 = true
    · exact ⟨_, _, size_t h2⟩
    · exact ⟨_, _, size_f h2⟩
  obtain ⟨n, ok, hz⟩ := hz
  rw [hE, bs, hR, bs, hz, bs, rsize_ok _ _ (by omega), hz, bs]
  exact last_loop l m hL (by omega) _ _ _ _ l.length 0 _ (by omega) (by omega)
end Go.Proofs.Ytkbpdnhbmceajaa.Pure
