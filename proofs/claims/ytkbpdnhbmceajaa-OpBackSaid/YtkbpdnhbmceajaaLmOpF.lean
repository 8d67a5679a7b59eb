/- Plain lemmas on operations, their bytes, and which are right, in the program. No conditions. -/
import Derived.Test.YtkbpdnhbmceajaaLmOp
namespace Go.Proofs.Ytkbpdnhbmceajaa.Lm
open Go.RowKit Go.Proofs.Ytkbpdnhbmceajaa.PQ Go.Proofs.YtkbpdnhbmceajaaW.PrintWords Go.Proofs.YtkbpdnhbmceajaaW.PrintLast Go.Proofs.YtkbpdnhbmceajaaW.PrintMore
set_option linter.unusedVariables false
set_option linter.unusedSimpArgs false

structure WF (o : S39) : Prop where
  wo : WO o
  n0 : -9223372036854775808 ≤ o.f0 ∧ o.f0 < 9223372036854775808
  n1 : -9223372036854775808 ≤ o.f1 ∧ o.f1 < 9223372036854775808
  n2 : 0 ≤ o.f2 ∧ o.f2 < 18446744073709551616
  n4 : -9223372036854775808 ≤ o.f4 ∧ o.f4 < 9223372036854775808
theorem WF.of {x : S39} (h : (Lit.int .i64 x.f0).wf = true ∧ (Lit.int .i64 x.f1).wf = true ∧ (Lit.int .u64 x.f2).wf = true ∧ (x.f3.length = 32 ∧ ∀ x_ ∈ x.f3, (Lit.int .u8 x_).wf = true) ∧ (Lit.int .i64 x.f4).wf = true) : WF x := ⟨WO.of h, wfi64 h.1, wfi64 h.2.1, wf64 h.2.2.1, wfi64 h.2.2.2.2⟩
def InR (o : S39) : Prop := (0 ≤ o.f1 ∧ o.f1 < 4294967296) ∧ (0 ≤ o.f4 ∧ o.f4 < 4294967296)
instance (o : S39) : Decidable (InR o) := inferInstanceAs (Decidable (_ ∧ _))
def b8 (x : Int) : List Int := [x / 72057594037927936 % 256, x / 281474976710656 % 256, x / 1099511627776 % 256, x / 4294967296 % 256, x / 16777216 % 256, x / 65536 % 256, x / 256 % 256, x % 256]
def b4 (x : Int) : List Int := [x / 16777216 % 256, x / 65536 % 256, x / 256 % 256, x % 256]
theorem b8_by (x : Int) : BY (b8 x) := by
  intro y hy
  simp only [b8, List.mem_cons, List.not_mem_nil, or_false] at hy
  rcases hy with rfl | rfl | rfl | rfl | rfl | rfl | rfl | rfl <;> omega
theorem b4_by (x : Int) : BY (b4 x) := by
  intro y hy
  simp only [b4, List.mem_cons, List.not_mem_nil, or_false] at hy
  rcases hy with rfl | rfl | rfl | rfl <;> omega
/-- A field's bytes. -/
def putB (x : Fld) (o : S39) : List Int :=
  match x with
  | .h => o.f3
  | .a => b8 o.f2
  | .w => b4 (IntKind.u32.wrap o.f1)
  | .n => b4 (IntKind.u32.wrap o.f4)
theorem putB_len (x : Fld) (o : S39) (ho : o.f3.length = 32) : (putB x o).length = x.size := by
  cases x
  · exact ho
  · rfl
  · rfl
  · rfl
theorem put_eq (x : Fld) (o : S39) (ho : WO o) (k : Nat) (hk : 9 ≤ k) : putF k x o = some (putB x o) := by
  cases x with
  | h =>
    show (if o.f3.length = 32 then slices_Clone_byte_byte.f o.f3 else none) = _
    rw [if_pos ho.l]
    unfold slices_Clone_byte_byte.f
    rw [bs, if_pos (by rw [ho.l]; decide), List.nil_append]
    rfl
  | a =>
    show (word_Put64.f k o.f2).bind (fun r => if r.length = 8 then some r else none) = _
    rw [put64_ok k hk, bs, if_pos (by rfl)]
    rfl
  | w =>
    show (word_Put32.f (IntKind.u32.wrap o.f1)).bind (fun r => if r.length = 4 then some r else none) = _
    unfold word_Put32.f
    rw [bs, if_pos (by rfl)]
    rfl
  | n =>
    show (word_Put32.f (IntKind.u32.wrap o.f4)).bind (fun r => if r.length = 4 then some r else none) = _
    unfold word_Put32.f
    rw [bs, if_pos (by rfl)]
    rfl
/-- One field of o, laid into o'. -/
def setF (x : Fld) (o' o : S39) : S39 :=
  match x with
  | .h => { o' with f3 := o.f3 }
  | .a => { o' with f2 := o.f2 }
  | .w => { o' with f1 := o.f1 }
  | .n => { o' with f4 := o.f4 }
theorem b8_back {x : Int} (h0 : 0 ≤ x) (h1 : x < 18446744073709551616) : (((((((x / 72057594037927936 % 256) * 256 + (x / 281474976710656 % 256)) * 256 + (x / 1099511627776 % 256)) * 256 + (x / 4294967296 % 256)) * 256 + (x / 16777216 % 256)) * 256 + (x / 65536 % 256)) * 256 + (x / 256 % 256)) * 256 + x % 256 = x := by omega
theorem b4_back {x : Int} (h0 : 0 ≤ x) (h1 : x < 4294967296) : (((x / 16777216 % 256) * 256 + (x / 65536 % 256)) * 256 + (x / 256 % 256)) * 256 + x % 256 = x := by omega
theorem take_put (x : Fld) (o o' : S39) (h : WF o) (hr : InR o) (k : Nat) (hk : 9 ≤ k) : takeF k x o' (putB x o) = some (setF x o' o) := by
  cases x with
  | h => rfl
  | a =>
    show (word_Get64.f k (b8 o.f2)).bind (fun z => some ({ o' with f2 := z } : S39)) = _
    rw [b8, get64_ok k hk _ _ _ _ _ _ _ _ (b8_by o.f2), bs, b8_back h.n2.1 h.n2.2]
    rfl
  | w =>
    show (word_Get32.f k (b4 (IntKind.u32.wrap o.f1))).bind (fun z => if 0 ≤ z ∧ z < 4294967296 then some ({ o' with f1 := z } : S39) else none) = _
    rw [wraps_u32 _ hr.1.1 hr.1.2, b4, get32_ok k (by omega) _ _ _ _ (b4_by o.f1), bs, b4_back hr.1.1 hr.1.2, if_pos hr.1]
    rfl
  | n =>
    show (word_Get32.f k (b4 (IntKind.u32.wrap o.f4))).bind (fun z => if 0 ≤ z ∧ z < 4294967296 then some ({ o' with f4 := z } : S39) else none) = _
    rw [wraps_u32 _ hr.2.1 hr.2.2, b4, get32_ok k (by omega) _ _ _ _ (b4_by o.f4), bs, b4_back hr.2.1 hr.2.2, if_pos hr.2]
    rfl
def cat : List Fld → S39 → List Int
  | [], _ => []
  | x :: L, o => putB x o ++ cat L o
def fil : List Fld → S39 → S39 → S39
  | [], o', _ => o'
  | x :: L, o', o => fil L (setF x o' o) o
theorem cat_len (o : S39) (ho : o.f3.length = 32) : ∀ L : List Fld, ((cat L o).length : Int) = szs L
  | [] => by simp [cat, szs]
  | x :: L => by rw [cat, List.length_append, szs_cons, putB_len x o ho]; have := cat_len o ho L; omega
theorem bytesl_eq (o : S39) (ho : WO o) (k : Nat) (hk : 9 ≤ k) (L : List Fld) : ∀ (acc : List Int), (acc.length : Int) + szs L < 1000 → op_bytes.l k o L acc = some (acc ++ cat L o) := by
  induction L with
  | nil =>
    intro acc _
    rw [cat, List.append_nil]
    rfl
  | cons x L ih =>
    intro acc h
    rw [szs_cons] at h
    have := szs_nn L
    have h2 := putB_len x o ho.l
    show (putF k x o).bind (fun r => if acc.length + r.length < 140737488355328 then op_bytes.l k o L (acc ++ r) else none) = _
    rw [put_eq x o ho k hk, bs, if_pos (by omega), ih _ (by rw [List.length_append]; omega), cat, List.append_assoc]
theorem onel_put (o : S39) (h : WF o) (hr : InR o) (k : Nat) (hk : 9 ≤ k) (b : List Int) : ∀ (L : List Fld) (o' : S39), op_one.l k L o' (cat L o ++ b) = some (fil L o' o, b)
  | [], o' => rfl
  | x :: L, o' => by
    have h2 := putB_len x o h.wo.l
    show (if x.size ≤ (putB x o ++ cat L o ++ b).length then (takeF k x o' ((putB x o ++ cat L o ++ b).take x.size)).bind (fun o1 => op_one.l k L o1 ((putB x o ++ cat L o ++ b).drop x.size)) else none) = _
    rw [if_pos (by rw [List.length_append, List.length_append]; omega), List.append_assoc, List.take_append_of_le_length (by omega), List.take_of_length_le (by omega), take_put x o o' h hr k hk, bs, List.drop_append_of_le_length (by omega), List.drop_of_length_le (by omega), List.nil_append]
    exact onel_put o h hr k hk b L _
/-- An operation's bytes. -/
def byt (o : S39) : List Int := if (flds o.f0).2 = true then o.f0 % 256 :: cat (flds o.f0).1 o else [o.f4 % 256]
theorem byt_len (o : S39) (ho : o.f3.length = 32) : ((byt o).length : Int) = sz o.f0 := by
  unfold byt sz
  split
  · rw [List.length_cons]
    have := cat_len o ho (flds o.f0).1
    omega
  · rfl
theorem bytes_eq (o : S39) (ho : WO o) (k : Nat) (hk : 9 ≤ k) : op_bytes.g k o = some (byt o) := by
  have := szs_flds o.f0
  unfold op_bytes.g byt
  split
  · rw [bytesl_eq o ho k hk _ _ (by simp; omega)]
    rfl
  · rfl
theorem flds_in {c : Int} (h : (flds c).2 = true) : 1 ≤ c ∧ c ≤ 11 := by
  unfold flds at h
  repeat' split at h
  all_goals first | omega | simp at h
/-- Which operations are right. -/
def rt (o : S39) : Bool := if (flds o.f0).2 = true then decide (InR o) && eqS39 (fil (flds o.f0).1 (opN o.f0 0) o) o else eqS39 (opN 0 o.f4) o && (decide (0 ≤ o.f4 ∧ o.f4 ≤ 255) && !(flds o.f4).2)
/-- The bytes of an operation of a kind are that operation, with the fields that its kind has. -/
theorem one_byt (o : S39) (h : WF o) (hr : InR o) (hf : (flds o.f0).2 = true) (k : Nat) (hk : 9 ≤ k) (b : List Int) : op_one.g k (byt o ++ b) = some (fil (flds o.f0).1 (opN o.f0 0) o, b) ∧ op_whole.f (byt o) = some true := by
  have hin := flds_in hf
  have hl := cat_len o h.wo.l (flds o.f0).1
  have e : byt o = o.f0 :: cat (flds o.f0).1 o := by unfold byt; rw [if_pos hf, show o.f0 % 256 = o.f0 by omega]
  have e0 : ∀ b, wrap64 (rd (o.f0 :: b) 0) = o.f0 := fun b => w64_id (by show -9223372036854775808 ≤ o.f0; omega) (by show o.f0 < _; omega)
  constructor
  · rw [e, List.cons_append]
    unfold op_one.g
    rw [if_pos (by simp; omega), e0, if_pos hf, whole_t (by simp) (by rw [e0]; exact hf), e0, bs, if_pos (by rw [decide_eq_true_eq, List.length_cons, List.length_append]; omega)]
    exact onel_put o h hr k hk b _ _
  · rw [e, whole_t (by simp) (by rw [e0]; exact hf), e0, List.length_cons, decide_eq_true (by omega)]
theorem eqS_f0 {x y : S39} (h : eqS39 x y = true) : x.f0 = y.f0 ∧ x.f1 = y.f1 ∧ x.f2 = y.f2 ∧ Ar.eqb 32 x.f3 y.f3 = true ∧ x.f4 = y.f4 := by
  unfold eqS39 at h
  simp only [Bool.and_eq_true, beq_iff_eq] at h
  exact ⟨h.1, h.2.1, h.2.2.1, h.2.2.2.1, h.2.2.2.2⟩
theorem right_out (o : S39) (hr : ¬ InR o) (k : Nat) (hk : 12 ≤ k) : op_Right.f k o.f0 o.f1 o.f2 o.f3 o.f4 = some false := by
  obtain ⟨k, rfl⟩ : ∃ m, k = m + 1 := ⟨k - 1, by omega⟩
  have ht : op_Right.j0 (k + 1) true o.f0 o.f1 o.f2 o.f3 o.f4 = some false := by rw [op_Right.j0, if_pos rfl]
  unfold op_Right.f
  unfold InR at hr
  by_cases c1 : o.f1 < 0
  · rw [if_pos c1, ht]
  by_cases c2 : o.f1 > 4294967295
  · rw [if_neg c1, if_pos c2, ht]
  by_cases c3 : o.f4 < 0
  · rw [if_neg c1, if_neg c2, if_pos c3, ht]
  rw [if_neg c1, if_neg c2, if_neg c3, decide_eq_true (by omega), ht]
theorem right_in (o o1 : S39) (q : List Int) (wb : Bool) (ho : WO o) (hr : InR o) (h1 : ∀ k, 9 ≤ k → op_one.g k (byt o) = some (o1, q)) (hw : op_whole.f (byt o) = some wb) (k : Nat) (hk : 12 ≤ k) :
    op_Right.f k o.f0 o.f1 o.f2 o.f3 o.f4 = some (eqS39 o1 o && (decide (q.length = 0) && wb)) := by
  obtain ⟨k, rfl⟩ : ∃ m, k = m + 1 := ⟨k - 1, by omega⟩
  unfold InR at hr
  unfold op_Right.f
  rw [if_neg (by omega), if_neg (by omega), if_neg (by omega), decide_eq_false (by omega), op_Right.j0, if_neg (by simp), show op_bytes.f k o.f0 o.f1 o.f2 o.f3 o.f4 = some (byt o) from bytes_eq o ho k (by omega), bs, one_f (h1 k (by omega)), bs, hw, bs]
  show (if eqS39 o1 o = true then (if (q.length : Int) = 0 then some wb else some false) else some false) = _
  by_cases he : eqS39 o1 o = true
  · rw [if_pos he, he]
    by_cases hq : q.length = 0
    · rw [if_pos (by omega), decide_eq_true hq]; simp
    · rw [if_neg (by omega), decide_eq_false hq]; simp
  · rw [if_neg he, Bool.eq_false_iff.mpr he]; rfl
theorem right_eq (o : S39) (h : WF o) (k : Nat) (hk : 12 ≤ k) : op_Right.f k o.f0 o.f1 o.f2 o.f3 o.f4 = some (rt o) := by
  by_cases hr : InR o
  · by_cases hf : (flds o.f0).2 = true
    · have := fun k hk => (one_byt o h hr hf k hk []).1
      simp only [List.append_nil] at this
      rw [right_in o _ [] true h.wo hr this (one_byt o h hr hf 9 (by omega) []).2 k hk]
      unfold rt
      rw [if_pos hf, decide_eq_true hr]
      simp
    · have hb : byt o = [o.f4 % 256] := by unfold byt; rw [if_neg hf]
      have e0 : wrap64 (rd [o.f4 % 256] 0) = o.f4 % 256 := w64_id (by show -9223372036854775808 ≤ o.f4 % 256; omega) (by show o.f4 % 256 < _; omega)
      by_cases hn : (flds (o.f4 % 256)).2 = true
      · have hw : op_whole.f (byt o) = some (decide (1 + szs (flds (o.f4 % 256)).1 ≤ 1)) := by
          rw [hb, whole_t (by simp) (by rw [e0]; exact hn), e0]
          rfl
        have hin := flds_in hn
        by_cases hs : 1 + szs (flds (o.f4 % 256)).1 ≤ 1
        · have hL : (flds (o.f4 % 256)).1 = [] := by
            generalize (flds (o.f4 % 256)).1 = L at hs
            cases L with
            | nil => rfl
            | cons x L => rw [szs_cons] at hs; have := szs_nn L; cases x <;> simp [Fld.size] at hs <;> omega
          have h1 : ∀ k, 9 ≤ k → op_one.g k (byt o) = some (opN (o.f4 % 256) 0, []) := fun k hk => by
            have hw2 := hw
            rw [hb] at hw2 ⊢
            unfold op_one.g
            rw [if_pos (by simp), e0, if_pos hn, hw2, bs, if_pos (by simpa using hs), hL]
            rfl
          rw [right_in o _ _ _ h.wo hr h1 hw k hk]
          have hne : eqS39 (opN (o.f4 % 256) 0) o = false := by
            rw [Bool.eq_false_iff]
            intro he
            have := (eqS_f0 he).1
            rw [← this] at hf
            exact hf hn
          have hne2 : rt o = false := by
            unfold rt
            rw [if_neg hf]
            by_cases hz : 0 ≤ o.f4 ∧ o.f4 ≤ 255
            · rw [show o.f4 % 256 = o.f4 by omega] at hn
              rw [hn]; simp
            · rw [decide_eq_false hz]; simp
          rw [hne, hne2]; rfl
        · have h1 : ∀ k, 9 ≤ k → op_one.g k (byt o) = some (opN 0 (o.f4 % 256), []) := fun k hk => by
            rw [hb] at hw ⊢
            unfold op_one.g
            rw [if_pos (by simp), e0, if_pos hn, hw, bs, if_neg (by simpa using hs)]
          rw [right_in o _ _ _ h.wo hr h1 hw k hk, decide_eq_false hs]
          have hne2 : rt o = false := by
            unfold rt
            rw [if_neg hf]
            by_cases hz : 0 ≤ o.f4 ∧ o.f4 ≤ 255
            · rw [show o.f4 % 256 = o.f4 by omega] at hn
              rw [hn]; simp
            · rw [decide_eq_false hz]; simp
          rw [hne2]; simp
      · have hw : op_whole.f (byt o) = some true := by
          rw [hb, whole_f (by simp) (by rw [e0]; exact hn)]
        have h1 : ∀ k, 9 ≤ k → op_one.g k (byt o) = some (opN 0 (o.f4 % 256), []) := fun k hk => by
          rw [hb]
          unfold op_one.g
          rw [if_pos (by simp), e0, if_neg hn]
          rfl
        rw [right_in o _ _ _ h.wo hr h1 hw k hk]
        unfold rt
        rw [if_neg hf]
        by_cases hz : 0 ≤ o.f4 ∧ o.f4 ≤ 255
        · rw [show o.f4 % 256 = o.f4 by omega] at hn ⊢
          rw [decide_eq_true hz, Bool.eq_false_iff.mpr hn]
          simp
        · have : eqS39 (opN 0 (o.f4 % 256)) o = false := by
            rw [Bool.eq_false_iff]
            intro he
            have h4 : o.f4 % 256 = o.f4 := (eqS_f0 he).2.2.2.2
            omega
          rw [this, decide_eq_false hz]
          simp
  · rw [right_out o hr k hk]
    have : rt o = false := by
      unfold rt
      split
      · rw [decide_eq_false hr]; rfl
      · rw [Bool.eq_false_iff]
        intro he
        simp only [Bool.and_eq_true, decide_eq_true_eq] at he
        obtain ⟨h1, h2, _⟩ := he
        have h3 : (0 : Int) = o.f1 := (eqS_f0 h1).2.1
        exact hr ⟨by omega, by omega⟩
    rw [this]
end Go.Proofs.Ytkbpdnhbmceajaa.Lm
