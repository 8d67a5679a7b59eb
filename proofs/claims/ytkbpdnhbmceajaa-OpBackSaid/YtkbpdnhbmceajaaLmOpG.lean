/- Plain lemmas on operations in the document: which are right, and their bytes, are the program's. No conditions. -/
import Derived.Test.YtkbpdnhbmceajaaPQx11
import Derived.Test.YtkbpdnhbmceajaaLmOpF
import Derived.Test.YtkbpdnhbmceajaaLmOpR
namespace Go.Proofs.Ytkbpdnhbmceajaa.Lm
open Go.RowKit Go.Proofs.Ytkbpdnhbmceajaa.PQ Go.Proofs.YtkbpdnhbmceajaaW.PrintWords Go.Proofs.YtkbpdnhbmceajaaW.PrintLast Go.Proofs.YtkbpdnhbmceajaaW.PrintMore
set_option linter.unusedVariables false
set_option linter.unusedSimpArgs false

def eqF : Fld → Fld → Bool
  | .h, .h => true
  | .a, .a => true
  | .w, .w => true
  | .n, .n => true
  | _, _ => false
def hasF (L : List Fld) (x : Fld) : Bool := L.any (eqF x)
theorem rhas_lit (s : ByteArray) (c : Int) (v : Bool) (h : drawlotref24_has.f 5 s c = some v) (k : Nat) (hk : 5 ≤ k) : drawlotref24_has.f k s c = some v := at_rounds (g := fun k => drawlotref24_has.f k s c) (fun k => drawlotref24_has.mono s c k) (k := 5) (k' := k) hk (r := v) h
theorem has_ok (c : Int) (hc : (flds c).2 = true) (x : Fld) (k : Nat) (hk : 5 ≤ k) : drawlotref24_has.f k (strF c) (ch x) = some (hasF (flds c).1 x) := by
  refine rhas_lit _ _ _ ?_ k hk
  have hin := flds_in hc
  rcases (show c = 1 ∨ c = 2 ∨ c = 3 ∨ c = 4 ∨ c = 5 ∨ c = 6 ∨ c = 7 ∨ c = 8 ∨ c = 9 ∨ c = 10 ∨ c = 11 by omega) with rfl | rfl | rfl | rfl | rfl | rfl | rfl | rfl | rfl | rfl | rfl <;> cases x <;> decide +kernel
theorem str_ne (c : Int) (hc : (flds c).2 = true) : ¬ (strF c).toList = ([] : List UInt8) := by
  have hin := flds_in hc
  rcases (show c = 1 ∨ c = 2 ∨ c = 3 ∨ c = 4 ∨ c = 5 ∨ c = 6 ∨ c = 7 ∨ c = 8 ∨ c = 9 ∨ c = 10 ∨ c = 11 by omega) with rfl | rfl | rfl | rfl | rfl | rfl | rfl | rfl | rfl | rfl | rfl <;> decide +kernel
theorem str_nil (c : Int) (hc : ¬ (flds c).2 = true) : strF c = ⟨#[]⟩ := by
  by_cases h1 : c = 1
  · subst h1; exact absurd rfl hc
  by_cases h2 : c = 2
  · subst h2; exact absurd rfl hc
  by_cases h3 : c = 3
  · subst h3; exact absurd rfl hc
  by_cases h4 : c = 4
  · subst h4; exact absurd rfl hc
  by_cases h5 : c = 5
  · subst h5; exact absurd rfl hc
  by_cases h6 : c = 6
  · subst h6; exact absurd rfl hc
  by_cases h7 : c = 7
  · subst h7; exact absurd rfl hc
  by_cases h8 : c = 8
  · subst h8; exact absurd rfl hc
  by_cases h9 : c = 9
  · subst h9; exact absurd rfl hc
  by_cases h10 : c = 10
  · subst h10; exact absurd rfl hc
  by_cases h11 : c = 11
  · subst h11; exact absurd rfl hc
  simp [strF, h1, h2, h3, h4, h5, h6, h7, h8, h9, h10, h11]
/-- No field but those of the kind. -/
def noF (hw hn ha hh : Bool) (o : S39) : Bool := (hw || decide (o.f1 = 0)) && ((hn || decide (o.f4 = 0)) && ((ha || decide (o.f2 = 0)) && (hh || Ar.eqb 32 o.f3 (List.replicate 32 0))))
theorem j1_ok (k : Nat) (hk : 2 ≤ k) (b : Bool) (o : S39) : drawlotref24_Right.j1 k b o.f0 o.f1 o.f2 o.f3 o.f4 = some (!b && decide (InR o)) := by
  obtain ⟨k, rfl⟩ : ∃ m, k = m + 2 := ⟨k - 2, by omega⟩
  have e : ∀ x, drawlotref24_Right.j2 (k + 1) x = some x := fun x => by rw [drawlotref24_Right.j2]
  rw [drawlotref24_Right.j1]
  simp only [e]
  cases b with
  | true => rfl
  | false =>
    rw [if_neg (by simp)]
    have hI : InR o ↔ (0 ≤ o.f1 ∧ o.f1 < 4294967296) ∧ (0 ≤ o.f4 ∧ o.f4 < 4294967296) := Iff.rfl
    by_cases h1 : o.f1 ≥ 0
    · by_cases h2 : o.f1 < 4294967296
      · by_cases h3 : o.f4 ≥ 0
        · rw [if_pos h1, if_pos h2, if_pos h3]
          by_cases h4 : o.f4 < 4294967296
          · rw [decide_eq_true h4, decide_eq_true (hI.mpr ⟨⟨h1, h2⟩, h3, h4⟩)]; rfl
          · rw [decide_eq_false h4, decide_eq_false (fun h => h4 (hI.mp h).2.2)]; rfl
        · rw [if_pos h1, if_pos h2, if_neg h3, decide_eq_false (fun h => h3 (hI.mp h).2.1)]; rfl
      · rw [if_pos h1, if_neg h2, decide_eq_false (fun h => h2 (hI.mp h).1.2)]; rfl
    · rw [if_neg h1, decide_eq_false (fun h => h1 (hI.mp h).1.1)]; rfl
theorem rflags (k : Nat) (hk : 2 ≤ k) (s : ByteArray) (hs : ¬ s.toList = ([] : List UInt8)) (o : S39) (hf : drawlotref24_fields.f k o.f0 = some s) (hw hn ha hh : Bool) (h1 : drawlotref24_has.f k s 119 = some hw) (h2 : drawlotref24_has.f k s 110 = some hn) (h3 : drawlotref24_has.f k s 97 = some ha) (h4 : drawlotref24_has.f k s 104 = some hh) :
    drawlotref24_Right.f k o.f0 o.f1 o.f2 o.f3 o.f4 = some (noF hw hn ha hh o && decide (InR o)) := by
  have j := fun b => j1_ok k hk b o
  unfold drawlotref24_Right.f
  rw [hf, bs, if_neg hs]
  have z : (List.replicate 32 (0 : Int)) = [0, 0, 0, 0, 0, 0, 0, 0, 0, 0, 0, 0, 0, 0, 0, 0, 0, 0, 0, 0, 0, 0, 0, 0, 0, 0, 0, 0, 0, 0, 0, 0] := rfl
  have s4 : ((drawlotref24_has.f k s 104).bind fun t => (if t = true then (drawlotref24_Right.j1 k false o.f0 o.f1 o.f2 o.f3 o.f4) else (drawlotref24_Right.j1 k (!(Ar.eqb 32 o.f3 [0, 0, 0, 0, 0, 0, 0, 0, 0, 0, 0, 0, 0, 0, 0, 0, 0, 0, 0, 0, 0, 0, 0, 0, 0, 0, 0, 0, 0, 0, 0, 0])) o.f0 o.f1 o.f2 o.f3 o.f4))) = some ((hh || Ar.eqb 32 o.f3 (List.replicate 32 0)) && decide (InR o)) := by
    rw [h4, bs, j, j, ← z]
    cases hh <;> simp
  rw [s4]
  have s3 : ((drawlotref24_has.f k s 97).bind fun t => (if t = true then some ((hh || Ar.eqb 32 o.f3 (List.replicate 32 0)) && decide (InR o)) else (if o.f2 = 0 then some ((hh || Ar.eqb 32 o.f3 (List.replicate 32 0)) && decide (InR o)) else (drawlotref24_Right.j1 k true o.f0 o.f1 o.f2 o.f3 o.f4)))) = some (((ha || decide (o.f2 = 0)) && (hh || Ar.eqb 32 o.f3 (List.replicate 32 0))) && decide (InR o)) := by
    rw [h3, bs, j]
    cases ha
    · by_cases h : o.f2 = 0 <;> simp [h]
    · simp
  rw [s3]
  have s2 : ((drawlotref24_has.f k s 110).bind fun t => (if t = true then some (((ha || decide (o.f2 = 0)) && (hh || Ar.eqb 32 o.f3 (List.replicate 32 0))) && decide (InR o)) else (if o.f4 = 0 then some (((ha || decide (o.f2 = 0)) && (hh || Ar.eqb 32 o.f3 (List.replicate 32 0))) && decide (InR o)) else (drawlotref24_Right.j1 k true o.f0 o.f1 o.f2 o.f3 o.f4)))) = some (((hn || decide (o.f4 = 0)) && ((ha || decide (o.f2 = 0)) && (hh || Ar.eqb 32 o.f3 (List.replicate 32 0)))) && decide (InR o)) := by
    rw [h2, bs, j]
    cases hn
    · by_cases h : o.f4 = 0 <;> simp [h]
    · simp
  rw [s2, h1, bs, j]
  unfold noF
  cases hw
  · by_cases h : o.f1 = 0 <;> simp [h]
  · simp
theorem eqb_comm (n : Nat) (a b : List Int) : Ar.eqb n a b = Ar.eqb n b a := by unfold Ar.eqb; exact BEq.comm
theorem eqS_comm (x y : S39) : eqS39 x y = eqS39 y x := by
  unfold eqS39
  rw [eqb_comm]
  simp only [BEq.comm (a := x.f0), BEq.comm (a := x.f1), BEq.comm (a := x.f2), BEq.comm (a := x.f4)]
theorem fil_noF (o : S39) (hc : (flds o.f0).2 = true) : eqS39 (fil (flds o.f0).1 (opN o.f0 0) o) o = noF (hasF (flds o.f0).1 .w) (hasF (flds o.f0).1 .n) (hasF (flds o.f0).1 .a) (hasF (flds o.f0).1 .h) o := by
  have hin := flds_in hc
  have e1 : ∀ x : Int, ((0 : Int) == x) = decide (x = 0) := fun x => by
    by_cases h : x = 0
    · simp [h]
    · simp [h]; omega
  have e2 : ∀ l : List Int, Ar.eqb 32 l l = true := fun l => by simp [Ar.eqb]
  have e3 := eqb_comm 32 (List.replicate 32 0) o.f3
  rcases (show o.f0 = 1 ∨ o.f0 = 2 ∨ o.f0 = 3 ∨ o.f0 = 4 ∨ o.f0 = 5 ∨ o.f0 = 6 ∨ o.f0 = 7 ∨ o.f0 = 8 ∨ o.f0 = 9 ∨ o.f0 = 10 ∨ o.f0 = 11 by omega) with h | h | h | h | h | h | h | h | h | h | h <;> rw [h] <;>
    simp only [flds, hasF, eqF, List.any, noF, fil, setF, opN, eqS39, h, e1, e2, e3, BEq.rfl, Bool.true_and, Bool.and_true, Bool.false_or, Bool.true_or, Bool.or_false, Bool.or_true, Int.reduceEq, if_true, if_false, Int.reduceBEq] <;>
    cases decide (o.f1 = 0) <;> cases decide (o.f2 = 0) <;> cases decide (o.f4 = 0) <;> simp
/-- What is right is the document's. -/
theorem rright_eq (o : S39) (h : WF o) (k : Nat) (hk : 60 ≤ k) : drawlotref24_Right.f k o.f0 o.f1 o.f2 o.f3 o.f4 = some (rt o) := by
  by_cases hf : (flds o.f0).2 = true
  · rw [rflags k (by omega) (strF o.f0) (str_ne _ hf) o (fields_ok _ _ (by omega)) _ _ _ _ (has_ok o.f0 hf .w k (by omega)) (has_ok o.f0 hf .n k (by omega)) (has_ok o.f0 hf .a k (by omega)) (has_ok o.f0 hf .h k (by omega)), ← fil_noF o hf]
    unfold rt
    rw [if_pos hf, Bool.and_comm]
  · obtain ⟨k, rfl⟩ : ∃ m, k = m + 1 := ⟨k - 1, by omega⟩
    have e : ∀ x, drawlotref24_Right.j0 (k + 1) x = some x := fun x => by rw [drawlotref24_Right.j0]
    unfold drawlotref24_Right.f rt
    rw [fields_ok _ _ (by omega), bs, str_nil _ hf, if_pos (by decide +kernel), rsize_ok _ _ (by omega), if_neg hf]
    have hz : ∃ n, op_Size.f o.f4 = some (n, (flds o.f4).2) := by
      by_cases h2 : (flds o.f4).2 = true
      · exact ⟨_, by rw [size_t h2, h2]⟩
      · exact ⟨_, by rw [size_f h2, Bool.eq_false_iff.mpr h2]⟩
    obtain ⟨n, hn⟩ := hz
    rw [hn, bs]
    simp only [e]
    show (if eqS39 o (opN 0 o.f4) = true then _ else _) = _
    rw [eqS_comm]
    by_cases h1 : eqS39 (opN 0 o.f4) o = true
    · rw [if_pos h1, h1]
      by_cases h2 : o.f4 ≥ 0
      · rw [if_pos h2]
        by_cases h3 : o.f4 ≤ 255
        · rw [if_pos h3, decide_eq_true ⟨h2, h3⟩]; simp
        · rw [if_neg h3, decide_eq_false (fun h => h3 h.2)]; rfl
      · rw [if_neg h2, decide_eq_false (fun h => h2 h.1)]; rfl
    · rw [if_neg h1, Bool.eq_false_iff.mpr h1]; rfl
/-! a field's bytes -/
theorem get_nat {n : Nat} {a : List Int} (ha : a.length = n) (i : Nat) (hi : i < n) : a.drop i = Ar.get n a (i : Int) :: a.drop (i + 1) := by
  unfold Ar.get
  rw [Ar.fit_id ha]
  exact drop_step (by omega)
theorem putl0 (a : List Int) (ha : a.length = 4) : ∀ (d i k : Nat) (acc : List Int), i + d = 4 → d < k → acc.length + d < 1000000 → drawlotref24_put.l0 k acc (i : Int) a = some (acc ++ a.drop i) := by
  intro d
  induction d with
  | zero =>
    intro i k acc hi hk hacc
    obtain ⟨k, rfl⟩ : ∃ m, k = m + 1 := ⟨k - 1, by omega⟩
    rw [drawlotref24_put.l0, if_neg (by omega), List.drop_of_length_le (by omega), List.append_nil]
  | succ d ih =>
    intro i k acc hi hk hacc
    obtain ⟨k, rfl⟩ : ∃ m, k = m + 1 := ⟨k - 1, by omega⟩
    rw [drawlotref24_put.l0, if_pos (by omega), if_pos (by omega), if_pos (by omega), w64_id (by omega) (by omega), show (i : Int) + 1 = ((i + 1 : Nat) : Int) by omega, ih (i + 1) k _ (by omega) (by omega) (by rw [List.length_append]; simp only [List.length_cons, List.length_nil]; omega), get_nat ha i (by omega), List.append_assoc]
    rfl
theorem putl1 (a : List Int) (ha : a.length = 8) : ∀ (d i k : Nat) (acc : List Int), i + d = 8 → d < k → acc.length + d < 1000000 → drawlotref24_put.l1 k acc (i : Int) a = some (acc ++ a.drop i) := by
  intro d
  induction d with
  | zero =>
    intro i k acc hi hk hacc
    obtain ⟨k, rfl⟩ : ∃ m, k = m + 1 := ⟨k - 1, by omega⟩
    rw [drawlotref24_put.l1, if_neg (by omega), List.drop_of_length_le (by omega), List.append_nil]
  | succ d ih =>
    intro i k acc hi hk hacc
    obtain ⟨k, rfl⟩ : ∃ m, k = m + 1 := ⟨k - 1, by omega⟩
    rw [drawlotref24_put.l1, if_pos (by omega), if_pos (by omega), if_pos (by omega), w64_id (by omega) (by omega), show (i : Int) + 1 = ((i + 1 : Nat) : Int) by omega, ih (i + 1) k _ (by omega) (by omega) (by rw [List.length_append]; simp only [List.length_cons, List.length_nil]; omega), get_nat ha i (by omega), List.append_assoc]
    rfl
theorem putl2 (a : List Int) (ha : a.length = 32) (f0 f1 f2 f4 : Int) : ∀ (d i k : Nat) (acc : List Int), i + d = 32 → d < k → acc.length + d < 1000000 → drawlotref24_put.l2 k acc (i : Int) f0 f1 f2 a f4 = some (acc ++ a.drop i) := by
  intro d
  induction d with
  | zero =>
    intro i k acc hi hk hacc
    obtain ⟨k, rfl⟩ : ∃ m, k = m + 1 := ⟨k - 1, by omega⟩
    rw [drawlotref24_put.l2, if_neg (by omega), List.drop_of_length_le (by omega), List.append_nil]
  | succ d ih =>
    intro i k acc hi hk hacc
    obtain ⟨k, rfl⟩ : ∃ m, k = m + 1 := ⟨k - 1, by omega⟩
    rw [drawlotref24_put.l2, if_pos (by omega), if_pos (by omega), if_pos (by omega), w64_id (by omega) (by omega), show (i : Int) + 1 = ((i + 1 : Nat) : Int) by omega, ih (i + 1) k _ (by omega) (by omega) (by rw [List.length_append]; simp only [List.length_cons, List.length_nil]; omega), get_nat ha i (by omega), List.append_assoc]
    rfl
theorem rput32 (x : Int) : drawlotref01_Put32.f (x % 4294967296) = some (b4 (IntKind.u32.wrap x)) := by
  rw [put32_eq _ (by omega) (by omega), u32w]
  rfl
theorem rput_eq (x : Fld) (o : S39) (h : WF o) (k : Nat) (hk : 60 ≤ k) : drawlotref24_put.f k o.f0 o.f1 o.f2 o.f3 o.f4 (ch x) = some (putB x o) := by
  obtain ⟨k, rfl⟩ : ∃ m, k = m + 2 := ⟨k - 2, by omega⟩
  cases x with
  | h =>
    show drawlotref24_put.f (k + 2) o.f0 o.f1 o.f2 o.f3 o.f4 104 = some o.f3
    unfold drawlotref24_put.f
    rw [if_neg (by decide), drawlotref24_put.j0, if_neg (by decide), if_neg (by decide), if_pos rfl]
    exact putl2 o.f3 h.wo.l _ _ _ _ 32 0 (k + 1) [] rfl (by omega) (by decide)
  | a =>
    show drawlotref24_put.f (k + 2) o.f0 o.f1 o.f2 o.f3 o.f4 97 = some (b8 o.f2)
    unfold drawlotref24_put.f
    rw [if_neg (by decide), drawlotref24_put.j0, if_neg (by decide), if_pos rfl, r01put64_ok _ (by omega) _ h.n2.1 h.n2.2, bs]
    exact putl1 (b8 o.f2) rfl 8 0 (k + 1) [] rfl (by omega) (by decide)
  | w =>
    show drawlotref24_put.f (k + 2) o.f0 o.f1 o.f2 o.f3 o.f4 119 = some (b4 (IntKind.u32.wrap o.f1))
    unfold drawlotref24_put.f
    rw [if_pos rfl, drawlotref24_put.j0, if_pos (by decide), rput32, bs, if_neg (by decide), drawlotref24_put.j1]
    exact putl0 (b4 (IntKind.u32.wrap o.f1)) rfl 4 0 k [] rfl (by omega) (by decide)
  | n =>
    show drawlotref24_put.f (k + 2) o.f0 o.f1 o.f2 o.f3 o.f4 110 = some (b4 (IntKind.u32.wrap o.f4))
    unfold drawlotref24_put.f
    rw [if_neg (by decide), drawlotref24_put.j0, if_pos (by decide), rput32, bs, if_pos rfl, rput32, bs, drawlotref24_put.j1]
    exact putl0 (b4 (IntKind.u32.wrap o.f4)) rfl 4 0 k [] rfl (by omega) (by decide)
theorem rput_none (o : S39) (k : Nat) (hk : 2 ≤ k) : drawlotref24_put.f k o.f0 o.f1 o.f2 o.f3 o.f4 45 = some [] := by
  obtain ⟨k, rfl⟩ : ∃ m, k = m + 1 := ⟨k - 1, by omega⟩
  unfold drawlotref24_put.f
  rw [if_neg (by decide), drawlotref24_put.j0, if_neg (by decide), if_neg (by decide), if_neg (by decide)]
/-! all of them -/
def encF : List Int → List S39 → List Int × Int
  | acc, [] => (acc, 0)
  | acc, o :: l => if rt o = true then encF (acc ++ byt o) l else ([], 1)
theorem byt_le (o : S39) (ho : o.f3.length = 32) : (byt o).length ≤ 41 := by
  have := byt_len o ho
  have := sz_in o.f0
  omega
theorem enc_all (l : List S39) (hl : ∀ x ∈ l, WF x) (hn : l.length ≤ 3100) : ∀ (n i : Nat), i + n = l.length → ∀ k acc, n + 20 ≤ k → acc.length + 100 * n < 1000000000 → op_Encode.l0 k acc l (l.length : Int) (i : Int) = some (encF acc (l.drop i)) := by
  intro n
  induction n with
  | zero =>
    intro i hi k acc hk _
    obtain ⟨k, rfl⟩ : ∃ m, k = m + 1 := ⟨k - 1, by omega⟩
    rw [List.drop_eq_nil_of_le (by omega), op_Encode.l0, if_neg (by omega), encF]
  | succ n ih =>
    intro i hi k acc hk ha
    obtain ⟨k, rfl⟩ : ∃ m, k = m + 1 := ⟨k - 1, by omega⟩
    have hw := hl _ (rd39_mem (l := l) (i := i) (by omega))
    have hb := byt_le _ hw.wo.l
    rw [drop39 (by omega), op_Encode.l0, if_pos (by omega), if_pos (by omega), if_pos (by omega), right_eq _ hw k (by omega), bs, encF]
    by_cases hr : rt (rd_T39 l (i : Int)) = true
    · rw [if_pos hr, if_pos hr, show op_bytes.f k (rd_T39 l (i : Int)).f0 (rd_T39 l (i : Int)).f1 (rd_T39 l (i : Int)).f2 (rd_T39 l (i : Int)).f3 (rd_T39 l (i : Int)).f4 = some (byt (rd_T39 l (i : Int))) from bytes_eq _ hw.wo k (by omega), bs, if_pos (by omega), w64_id (by omega) (by omega)]
      exact ih (i + 1) (by omega) k _ (by omega) (by rw [List.length_append]; omega)
    · rw [if_neg hr, if_neg hr]
theorem renc_round {k : Nat} {l : List S39} {out r : List Int} {i : Nat} {s : ByteArray} {j : Int} (hi : i < l.length) (h0 : 0 ≤ j) (hj : j < (s.size : Int)) (hs : (s.size : Int) < 1000) (hp : drawlotref24_put.f k (rd_T39 l (i : Int)).f0 (rd_T39 l (i : Int)).f1 (rd_T39 l (i : Int)).f2 (rd_T39 l (i : Int)).f3 (rd_T39 l (i : Int)).f4 (bt s j) = some r) (hl : out.length + r.length < 1000000000) :
    drawlotref24_Encode.l1 (k + 1) l out (i : Int) s j = drawlotref24_Encode.l1 k l (out ++ r) (i : Int) s (j + 1) := by
  rw [drawlotref24_Encode.l1, if_pos hj, if_pos (by omega), if_pos (by omega), if_pos h0, hp, bs, if_pos (by omega), w64_id (by omega) (by omega)]
theorem renc_end {k : Nat} {l : List S39} {out : List Int} {i : Nat} {s : ByteArray} {j : Int} (hi : i < 1000000) (hj : ¬ j < (s.size : Int)) :
    drawlotref24_Encode.l1 (k + 1) l out (i : Int) s j = drawlotref24_Encode.l0 k l out ((i + 1 : Nat) : Int) := by
  rw [drawlotref24_Encode.l1, if_neg hj, w64_id (by omega) (by omega)]
  rfl
theorem renc_fields {l : List S39} {i : Nat} (hi : i < l.length) (hi2 : i < 1000000) (hw : WF (rd_T39 l (i : Int))) (L : List Fld) (s : ByteArray) (hS : Shape s L) (out : List Int) (ho : out.length < 100000000) :
    ∃ m, m ≤ 3 ∧ ∀ k, 60 ≤ k → drawlotref24_Encode.l1 (k + m) l out (i : Int) s 0 = drawlotref24_Encode.l0 k l (out ++ cat L (rd_T39 l (i : Int))) ((i + 1 : Nat) : Int) := by
  have hp := fun x k hk => rput_eq x _ hw k hk
  have hlen := fun x => putB_len x (rd_T39 l (i : Int)) hw.wo.l
  have hsz : ∀ x : Fld, x.size ≤ 32 := fun x => by cases x <;> decide
  match L, hS with
  | [], hS =>
    refine ⟨2, by decide, fun k hk => ?_⟩
    rw [renc_round (k := k + 1) (r := []) hi (by omega) (by rw [hS.1]; omega) (by rw [hS.1]; decide) (by rw [hS.2]; exact rput_none _ _ (by omega)) (by simp; omega), renc_end hi2 (by rw [hS.1]; omega), cat]
  | [x], hS =>
    refine ⟨2, by decide, fun k hk => ?_⟩
    have h1 := hlen x
    have h2 := hsz x
    rw [renc_round (k := k + 1) hi (by omega) (by rw [hS.1]; omega) (by rw [hS.1]; decide) (by rw [hS.2]; exact hp x _ (by omega)) (by omega), renc_end hi2 (by rw [hS.1]; omega), cat, cat, List.append_nil]
  | [x, y], hS =>
    refine ⟨3, by decide, fun k hk => ?_⟩
    have h1 := hlen x
    have h2 := hsz x
    have h3 := hlen y
    have h4 := hsz y
    rw [renc_round (k := k + 2) hi (by omega) (by rw [hS.1]; omega) (by rw [hS.1]; decide) (by rw [hS.2.1]; exact hp x _ (by omega)) (by omega), show (0 : Int) + 1 = 1 from rfl, renc_round (k := k + 1) hi (by omega) (by rw [hS.1]; omega) (by rw [hS.1]; decide) (by rw [hS.2.2]; exact hp y _ (by omega)) (by rw [List.length_append]; omega), renc_end hi2 (by rw [hS.1]; omega), cat, cat, cat, List.append_nil, List.append_assoc]
theorem renc_all (l : List S39) (hl : ∀ x ∈ l, WF x) (hn : l.length ≤ 3100) : ∀ (n i : Nat), i + n = l.length → ∀ acc, acc.length + 100 * n < 100000000 → ∃ m, m ≤ 10 * n + 100 ∧ ∀ k, m ≤ k → drawlotref24_Encode.l0 k l acc (i : Int) = some (encF acc (l.drop i)) := by
  intro n
  induction n with
  | zero =>
    intro i hi acc _
    refine ⟨1, by omega, fun k hk => ?_⟩
    obtain ⟨k, rfl⟩ : ∃ m, k = m + 1 := ⟨k - 1, by omega⟩
    rw [List.drop_eq_nil_of_le (by omega), drawlotref24_Encode.l0, if_neg (by omega), encF]
  | succ n ih =>
    intro i hi acc ha
    have hw := hl _ (rd39_mem (l := l) (i := i) (by omega))
    have hb := byt_le _ hw.wo.l
    have hr := fun k hk => rright_eq _ hw k hk
    by_cases hR : rt (rd_T39 l (i : Int)) = true
    · obtain ⟨m, hm, hE⟩ := ih (i + 1) (by omega) (acc ++ byt (rd_T39 l (i : Int))) (by rw [List.length_append]; omega)
      refine ⟨max m 100 + 5, by omega, fun k hk => ?_⟩
      rw [drop39 (by omega), encF, if_pos hR]
      by_cases hf : (flds (rd_T39 l (i : Int)).f0).2 = true
      · have e : byt (rd_T39 l (i : Int)) = [(rd_T39 l (i : Int)).f0 % 256] ++ cat (flds (rd_T39 l (i : Int)).f0).1 (rd_T39 l (i : Int)) := by unfold byt; rw [if_pos hf]; rfl
        rw [e] at hE ⊢
        obtain ⟨q, hq, hF⟩ : ∃ q, q ≤ 3 ∧ drawlotref24_Encode.l1 (k - 1) l (acc ++ [(rd_T39 l (i : Int)).f0 % 256]) (i : Int) (strF (rd_T39 l (i : Int)).f0) 0 = drawlotref24_Encode.l0 (k - 1 - q) l ((acc ++ [(rd_T39 l (i : Int)).f0 % 256]) ++ cat (flds (rd_T39 l (i : Int)).f0).1 (rd_T39 l (i : Int))) ((i + 1 : Nat) : Int) := by
          have hm := renc_fields (l := l) (i := i) (by omega) (by omega) hw _ _ (shape_ok _ hf) (acc ++ [(rd_T39 l (i : Int)).f0 % 256]) (by rw [List.length_append]; simp only [List.length_cons, List.length_nil]; omega)
          obtain ⟨q, h1, h2⟩ := hm
          refine ⟨q, h1, ?_⟩
          have := h2 (k - 1 - q) (by omega)
          rw [show k - 1 - q + q = k - 1 by omega] at this
          exact this
        obtain ⟨k, rfl⟩ : ∃ m, k = m + 1 := ⟨k - 1, by omega⟩
        rw [drawlotref24_Encode.l0, if_pos (by omega), if_pos (by omega), hr k (by omega), bs, if_pos hR, fields_ok _ _ (by omega), bs, if_neg (str_ne _ hf), if_pos (by omega)]
        refine hF.trans ?_
        rw [List.append_assoc]
        exact hE _ (by omega)
      · have e : byt (rd_T39 l (i : Int)) = [(rd_T39 l (i : Int)).f4 % 256] := by unfold byt; rw [if_neg hf]
        rw [e] at hE ⊢
        obtain ⟨k, rfl⟩ : ∃ m, k = m + 1 := ⟨k - 1, by omega⟩
        rw [drawlotref24_Encode.l0, if_pos (by omega), if_pos (by omega), hr k (by omega), bs, if_pos hR, fields_ok _ _ (by omega), bs, str_nil _ hf, if_pos (by decide +kernel), if_pos (by omega), w64_id (by omega) (by omega)]
        exact hE _ (by omega)
    · refine ⟨100, by omega, fun k hk => ?_⟩
      obtain ⟨k, rfl⟩ : ∃ m, k = m + 1 := ⟨k - 1, by omega⟩
      rw [drop39 (by omega), encF, if_neg hR, drawlotref24_Encode.l0, if_pos (by omega), if_pos (by omega), hr k (by omega), bs, if_neg hR]
end Go.Proofs.Ytkbpdnhbmceajaa.Lm
