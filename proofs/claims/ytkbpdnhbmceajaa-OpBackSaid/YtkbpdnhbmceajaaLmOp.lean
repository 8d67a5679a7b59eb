/- Plain lemmas on operations and their bytes, in the program. No conditions. -/
import Derived.Test.YtkbpdnhbmceajaaPQx4
import Derived.Test.YtkbpdnhbmceajaaPQx5
import Derived.Test.YtkbpdnhbmceajaaLmBytes
namespace Go.Proofs.Ytkbpdnhbmceajaa.Lm
open Go.RowKit Go.Proofs.Ytkbpdnhbmceajaa.PQ Go.Proofs.YtkbpdnhbmceajaaW.PrintWords Go.Proofs.YtkbpdnhbmceajaaW.PrintLast Go.Proofs.YtkbpdnhbmceajaaW.PrintMore
set_option linter.unusedVariables false
set_option linter.unusedSimpArgs false

theorem alive24 (k : Nat) (hk : 60 ≤ k) : drawlotlaw24_alive.f k = some true := at_rounds (g := fun k => drawlotlaw24_alive.f k) (fun k => drawlotlaw24_alive.mono k) (k := 60) (k' := k) hk (r := true) (by decide +kernel)
def BY (l : List Int) : Prop := ∀ b ∈ l, 0 ≤ b ∧ b < 256
theorem BY.of_wf {l : List Int} (h : ∀ x ∈ l, (Lit.int .u8 x).wf = true) : BY l := fun x hx => wf8 (h x hx)
theorem BY.take {l : List Int} (h : BY l) (n : Nat) : BY (l.take n) := fun x hx => h x (List.mem_of_mem_take hx)
theorem BY.drop {l : List Int} (h : BY l) (n : Nat) : BY (l.drop n) := fun x hx => h x (List.mem_of_mem_drop hx)
theorem BY.app {a b : List Int} (ha : BY a) (hb : BY b) : BY (a ++ b) := fun x hx => (List.mem_append.mp hx).elim (ha x) (hb x)
theorem len4 {b : List Int} (h : b.length = 4) : ∃ b0 b1 b2 b3, b = [b0, b1, b2, b3] := by
  match b, h with
  | [b0, b1, b2, b3], _ => exact ⟨_, _, _, _, rfl⟩
theorem len8 {b : List Int} (h : b.length = 8) : ∃ b0 b1 b2 b3 b4 b5 b6 b7, b = [b0, b1, b2, b3, b4, b5, b6, b7] := by
  match b, h with
  | [b0, b1, b2, b3, b4, b5, b6, b7], _ => exact ⟨_, _, _, _, _, _, _, _, rfl⟩
/-- A field is taken out of as many bytes as it has, whatever they are. -/
theorem take_total (x : Fld) (o : S39) (b : List Int) (hb : BY b) (hl : b.length = x.size) (ho : o.f3.length = 32) : ∃ o1, (∀ k, 9 ≤ k → takeF k x o b = some o1) ∧ o1.f3.length = 32 := by
  cases x with
  | h => exact ⟨{ o with f3 := b }, fun k _ => rfl, hl⟩
  | a =>
    obtain ⟨b0, b1, b2, b3, b4, b5, b6, b7, rfl⟩ := len8 hl
    obtain ⟨z, hz⟩ : ∃ z, ∀ k, 9 ≤ k → word_Get64.f k [b0, b1, b2, b3, b4, b5, b6, b7] = some z := ⟨_, fun k hk => get64_ok k hk _ _ _ _ _ _ _ _ hb⟩
    refine ⟨{ o with f2 := z }, fun k hk => ?_, ho⟩
    show (word_Get64.f k [b0, b1, b2, b3, b4, b5, b6, b7]).bind (fun z => some ({ o with f2 := z } : S39)) = _
    rw [hz k hk, bs]
  | w =>
    obtain ⟨b0, b1, b2, b3, rfl⟩ := len4 hl
    have h0 := hb b0 (by simp)
    have h1 := hb b1 (by simp)
    have h2 := hb b2 (by simp)
    have h3 := hb b3 (by simp)
    refine ⟨{ o with f1 := ((b0 * 256 + b1) * 256 + b2) * 256 + b3 }, fun k hk => ?_, ho⟩
    show (word_Get32.f k [b0, b1, b2, b3]).bind (fun z => if 0 ≤ z ∧ z < 4294967296 then some ({ o with f1 := z } : S39) else none) = _
    rw [get32_ok k (by omega) _ _ _ _ hb, bs, if_pos (by omega)]
  | n =>
    obtain ⟨b0, b1, b2, b3, rfl⟩ := len4 hl
    have h0 := hb b0 (by simp)
    have h1 := hb b1 (by simp)
    have h2 := hb b2 (by simp)
    have h3 := hb b3 (by simp)
    refine ⟨{ o with f4 := ((b0 * 256 + b1) * 256 + b2) * 256 + b3 }, fun k hk => ?_, ho⟩
    show (word_Get32.f k [b0, b1, b2, b3]).bind (fun z => if 0 ≤ z ∧ z < 4294967296 then some ({ o with f4 := z } : S39) else none) = _
    rw [get32_ok k (by omega) _ _ _ _ hb, bs, if_pos (by omega)]
theorem szs_cons (x : Fld) (L : List Fld) : szs (x :: L) = x.size + szs L := by simp [szs]
theorem szs_nn : ∀ L : List Fld, 0 ≤ szs L
  | [] => by simp [szs]
  | x :: L => by have := szs_nn L; rw [szs_cons]; omega
theorem szs_flds (c : Int) : szs (flds c).1 ≤ 40 := by
  unfold flds
  repeat' split
  all_goals simp [szs, Fld.size]
theorem onel_total : ∀ (L : List Fld) (o : S39) (b : List Int), BY b → o.f3.length = 32 → szs L ≤ (b.length : Int) → ∃ o1 r, (∀ k, 9 ≤ k → op_one.l k L o b = some (o1, r)) ∧ r.length ≤ b.length ∧ BY r ∧ o1.f3.length = 32
  | [], o, b, hb, ho, hs => ⟨o, b, fun _ _ => rfl, Nat.le_refl _, hb, ho⟩
  | x :: L, o, b, hb, ho, hs => by
    rw [szs_cons] at hs
    have := szs_nn L
    obtain ⟨o1, h1, h2⟩ := take_total x o (b.take x.size) (hb.take _) (by rw [List.length_take]; omega) ho
    obtain ⟨o2, r, h3, h4, h5, h6⟩ := onel_total L o1 (b.drop x.size) (hb.drop _) h2 (by rw [List.length_drop]; omega)
    refine ⟨o2, r, fun k hk => ?_, by rw [List.length_drop] at h4; omega, h5, h6⟩
    show (if x.size ≤ b.length then (takeF k x o (b.take x.size)).bind (fun o1 => op_one.l k L o1 (b.drop x.size)) else none) = _
    rw [if_pos (by omega), h1 k hk, bs, h3 k hk]
theorem size_t {c : Int} (h : (flds c).2 = true) : op_Size.f c = some (1 + szs (flds c).1, true) := by unfold op_Size.f; rw [if_pos h]
theorem size_f {c : Int} (h : ¬ (flds c).2 = true) : op_Size.f c = some (0, false) := by unfold op_Size.f; rw [if_neg h]
theorem whole_t {t : List Int} (ht : 0 < t.length) (h : (flds (wrap64 (rd t 0))).2 = true) : op_whole.f t = some (decide (1 + szs (flds (wrap64 (rd t 0))).1 ≤ (t.length : Int))) := by
  unfold op_whole.f
  rw [if_pos (by omega), size_t h, bs, if_pos rfl]
theorem whole_f {t : List Int} (ht : 0 < t.length) (h : ¬ (flds (wrap64 (rd t 0))).2 = true) : op_whole.f t = some true := by
  unfold op_whole.f
  rw [if_pos (by omega), size_f h, bs, if_neg (by simp)]
theorem one_total {t : List Int} (hb : BY t) (ht : 0 < t.length) : ∃ o r, (∀ k, 9 ≤ k → op_one.g k t = some (o, r)) ∧ r.length < t.length ∧ BY r ∧ o.f3.length = 32 := by
  by_cases h : (flds (wrap64 (rd t 0))).2 = true
  · by_cases hs : 1 + szs (flds (wrap64 (rd t 0))).1 ≤ (t.length : Int)
    · obtain ⟨o, r, h1, h2, h3, h4⟩ := onel_total (flds (wrap64 (rd t 0))).1 (opN (wrap64 (rd t 0)) 0) (t.drop 1) (hb.drop 1) (by simp [opN]) (by rw [List.length_drop]; omega)
      refine ⟨o, r, fun k hk => ?_, by rw [List.length_drop] at h2; omega, h3, h4⟩
      unfold op_one.g
      rw [if_pos (by omega), if_pos h, whole_t ht h, bs, if_pos (by simpa using hs), h1 k hk]
    · refine ⟨opN 0 (wrap64 (rd t 0)), [], fun k hk => ?_, by simpa using ht, fun x hx => by simp at hx, by simp [opN]⟩
      unfold op_one.g
      rw [if_pos (by omega), if_pos h, whole_t ht h, bs, if_neg (by simpa using hs)]
  · refine ⟨opN 0 (wrap64 (rd t 0)), t.drop 1, fun k hk => ?_, by rw [List.length_drop]; omega, hb.drop 1, by simp [opN]⟩
    unfold op_one.g
    rw [if_pos (by omega), if_neg h]
theorem onel_app (k : Nat) (b : List Int) : ∀ (L : List Fld) (o : S39) (x : List Int) (o1 : S39) (r : List Int), op_one.l k L o x = some (o1, r) → op_one.l k L o (x ++ b) = some (o1, r ++ b)
  | [], o, x, o1, r, h => by
    have h2 := Option.some.inj (show some (o, x) = some (o1, r) from h)
    simp only [Prod.mk.injEq] at h2
    obtain ⟨rfl, rfl⟩ := h2
    rfl
  | y :: L, o, x, o1, r, h => by
    replace h : (if y.size ≤ x.length then (takeF k y o (x.take y.size)).bind (fun o1 => op_one.l k L o1 (x.drop y.size)) else none) = some (o1, r) := h
    show (if y.size ≤ (x ++ b).length then (takeF k y o ((x ++ b).take y.size)).bind (fun o1 => op_one.l k L o1 ((x ++ b).drop y.size)) else none) = _
    by_cases hy : y.size ≤ x.length
    · rw [if_pos hy] at h
      obtain ⟨o2, h1, h2⟩ := Option.bind_eq_some_iff.mp h
      rw [if_pos (by rw [List.length_append]; omega), List.take_append_of_le_length hy, h1, bs, List.drop_append_of_le_length hy]
      exact onel_app k b L o2 _ o1 r h2
    · rw [if_neg hy] at h
      exact absurd h (by simp)
theorem rd_app0 {t b : List Int} (ht : 0 < t.length) : rd (t ++ b) 0 = rd t 0 := by
  cases t with
  | nil => simp at ht
  | cons x t => simp [rd]
/-- What stands behind an operation's bytes stays. -/
theorem one_app {k : Nat} {t b : List Int} {o : S39} {r : List Int} (h : op_one.g k t = some (o, r)) (hw : op_whole.f t = some true) (ht : 0 < t.length) : op_one.g k (t ++ b) = some (o, r ++ b) := by
  have hl : 0 < (t ++ b).length := by rw [List.length_append]; omega
  unfold op_one.g at h ⊢
  rw [if_pos (by omega)] at h ⊢
  rw [rd_app0 ht]
  by_cases hf : (flds (wrap64 (rd t 0))).2 = true
  · rw [if_pos hf] at h ⊢
    rw [hw, bs, if_pos rfl] at h
    rw [whole_t ht hf] at hw
    have hw2 : op_whole.f (t ++ b) = some true := by
      rw [whole_t hl (by rw [rd_app0 ht]; exact hf), rd_app0 ht]
      simp only [Option.some.injEq, decide_eq_true_eq] at hw ⊢
      rw [List.length_append]
      omega
    rw [hw2, bs, if_pos rfl, List.drop_append_of_le_length (by omega)]
    exact onel_app k b _ _ _ _ _ h
  · rw [if_neg hf] at h ⊢
    rw [List.drop_append_of_le_length (by omega)]
    have h2 := Option.some.inj h
    simp only [Prod.mk.injEq] at h2
    obtain ⟨rfl, rfl⟩ := h2
    rfl
theorem one_f {k : Nat} {t : List Int} {o : S39} {r : List Int} (h : op_one.g k t = some (o, r)) : op_one.f k t = some (o.f0, o.f1, o.f2, o.f3, o.f4, r) := by
  unfold op_one.f
  rw [h, bs]
theorem dec_step {k : Nat} {t : List Int} {o : S39} {r : List Int} {acc : List S39} (ht : 0 < t.length) (h : op_one.g k t = some (o, r)) (ha : acc.length < 2199023255552) : op_Decode.l0 (k + 1) t acc = op_Decode.l0 k r (acc ++ [o]) := by
  rw [op_Decode.l0, if_pos (by omega), one_f h, bs, if_pos ha]
theorem dec_nil (k : Nat) (acc : List S39) : op_Decode.l0 (k + 1) [] acc = some acc := by
  rw [op_Decode.l0, if_neg (by simp)]
/-! an operation's bytes -/
structure WO (o : S39) : Prop where
  l : o.f3.length = 32
  b : BY o.f3
theorem put_total (x : Fld) (o : S39) (ho : WO o) : ∃ r, (∀ k, 9 ≤ k → putF k x o = some r) ∧ BY r ∧ r.length = x.size := by
  cases x with
  | h =>
    refine ⟨o.f3, fun k _ => ?_, ho.b, ho.l⟩
    show (if o.f3.length = 32 then slices_Clone_byte_byte.f o.f3 else none) = _
    rw [if_pos ho.l]
    unfold slices_Clone_byte_byte.f
    rw [bs, if_pos (by rw [ho.l]; decide), List.nil_append]
  | a =>
    refine ⟨[o.f2 / 72057594037927936 % 256, o.f2 / 281474976710656 % 256, o.f2 / 1099511627776 % 256, o.f2 / 4294967296 % 256, o.f2 / 16777216 % 256, o.f2 / 65536 % 256, o.f2 / 256 % 256, o.f2 % 256], fun k hk => ?_, ?_, rfl⟩
    · show (word_Put64.f k o.f2).bind (fun r => if r.length = 8 then some r else none) = _
      rw [put64_ok k hk, bs, if_pos (by rfl)]
    · intro x hx
      simp only [List.mem_cons, List.not_mem_nil, or_false] at hx
      rcases hx with rfl | rfl | rfl | rfl | rfl | rfl | rfl | rfl <;> omega
  | w =>
    refine ⟨[IntKind.u32.wrap o.f1 / 16777216 % 256, IntKind.u32.wrap o.f1 / 65536 % 256, IntKind.u32.wrap o.f1 / 256 % 256, IntKind.u32.wrap o.f1 % 256], fun k hk => ?_, ?_, rfl⟩
    · show (word_Put32.f (IntKind.u32.wrap o.f1)).bind (fun r => if r.length = 4 then some r else none) = _
      unfold word_Put32.f
      rw [bs, if_pos (by rfl)]
    · intro x hx
      simp only [List.mem_cons, List.not_mem_nil, or_false] at hx
      rcases hx with rfl | rfl | rfl | rfl <;> omega
  | n =>
    refine ⟨[IntKind.u32.wrap o.f4 / 16777216 % 256, IntKind.u32.wrap o.f4 / 65536 % 256, IntKind.u32.wrap o.f4 / 256 % 256, IntKind.u32.wrap o.f4 % 256], fun k hk => ?_, ?_, rfl⟩
    · show (word_Put32.f (IntKind.u32.wrap o.f4)).bind (fun r => if r.length = 4 then some r else none) = _
      unfold word_Put32.f
      rw [bs, if_pos (by rfl)]
    · intro x hx
      simp only [List.mem_cons, List.not_mem_nil, or_false] at hx
      rcases hx with rfl | rfl | rfl | rfl <;> omega
theorem bytesl_total (o : S39) (ho : WO o) (L : List Fld) : ∀ (acc : List Int), BY acc → (acc.length : Int) + szs L < 1000 → ∃ r, (∀ k, 9 ≤ k → op_bytes.l k o L acc = some r) ∧ BY r ∧ (r.length : Int) = acc.length + szs L := by
  induction L with
  | nil =>
    intro acc hb _
    exact ⟨acc, fun _ _ => rfl, hb, by simp [szs]⟩
  | cons x L ih =>
    intro acc hb hs
    rw [szs_cons] at hs ⊢
    have := szs_nn L
    obtain ⟨r, h1, h2, h3⟩ := put_total x o ho
    obtain ⟨r2, h4, h5, h6⟩ := ih (acc ++ r) (hb.app h2) (by rw [List.length_append, h3]; omega)
    refine ⟨r2, fun k hk => ?_, h5, by rw [h6, List.length_append, h3]; omega⟩
    show (putF k x o).bind (fun r => if acc.length + r.length < 140737488355328 then op_bytes.l k o L (acc ++ r) else none) = _
    rw [h1 k hk, bs, if_pos (by omega), h4 k hk]
/-- How many bytes an operation of a kind has. -/
def sz (c : Int) : Int := if (flds c).2 = true then 1 + szs (flds c).1 else 1
theorem sz_in (c : Int) : 1 ≤ sz c ∧ sz c ≤ 41 := by
  have := szs_flds c
  have := szs_nn (flds c).1
  unfold sz
  split <;> omega
theorem bytes_total (o : S39) (ho : WO o) : ∃ r, (∀ k, 9 ≤ k → op_bytes.g k o = some r) ∧ BY r ∧ (r.length : Int) = sz o.f0 := by
  by_cases h : (flds o.f0).2 = true
  · have := szs_flds o.f0
    obtain ⟨r, h1, h2, h3⟩ := bytesl_total o ho (flds o.f0).1 [o.f0 % 256] (fun x hx => by simp only [List.mem_cons, List.not_mem_nil, or_false] at hx; subst hx; omega) (by simp only [List.length_cons, List.length_nil]; omega)
    refine ⟨r, fun k hk => ?_, h2, ?_⟩
    · unfold op_bytes.g
      rw [if_pos h, h1 k hk]
    · unfold sz
      rw [if_pos h, h3]
      simp
  · refine ⟨[o.f4 % 256], fun k hk => ?_, fun x hx => by simp only [List.mem_cons, List.not_mem_nil, or_false] at hx; subst hx; omega, ?_⟩
    · unfold op_bytes.g
      rw [if_neg h]
    · unfold sz
      rw [if_neg h]
      simp
/-- What the bytes of an operation that is right are. -/
structure OneSeg (o o1 : S39) (r : List Int) : Prop where
  one : ∀ k, 9 ≤ k → op_one.g k r = some (o1, [])
  whole : op_whole.f r = some true
  eq : eqS39 o1 o = true
  len : (r.length : Int) = sz o.f0
theorem right_total (o : S39) (ho : WO o) : ∃ (b : Bool) (o1 : S39) (r : List Int), (∀ k, 12 ≤ k → op_Right.f k o.f0 o.f1 o.f2 o.f3 o.f4 = some b) ∧ (∀ k, 9 ≤ k → op_bytes.f k o.f0 o.f1 o.f2 o.f3 o.f4 = some r) ∧ BY r ∧ (b = true → OneSeg o o1 r) := by
  obtain ⟨r, h1, h2, h3⟩ := bytes_total o ho
  have hz := sz_in o.f0
  obtain ⟨o1, q, h4, h5, h6, h7⟩ := one_total h2 (by omega)
  obtain ⟨wb, hw⟩ : ∃ wb, op_whole.f r = some wb := by
    by_cases h : (flds (wrap64 (rd r 0))).2 = true
    · exact ⟨_, whole_t (by omega) h⟩
    · exact ⟨_, whole_f (by omega) h⟩
  have hj : ∀ k, 11 ≤ k → op_Right.j0 k false o.f0 o.f1 o.f2 o.f3 o.f4 = some (if eqS39 o1 o = true then (if (q.length : Int) = 0 then wb else false) else false) := by
    intro k hk
    obtain ⟨k, rfl⟩ : ∃ m, k = m + 1 := ⟨k - 1, by omega⟩
    rw [op_Right.j0, if_neg (by simp), show op_bytes.f k o.f0 o.f1 o.f2 o.f3 o.f4 = some r from h1 k (by omega), bs, one_f (h4 k (by omega)), bs, hw, bs]
    show (if eqS39 o1 o = true then (if (q.length : Int) = 0 then some wb else some false) else some false) = _
    split
    · split <;> rfl
    · rfl
  have ht : ∀ k, 11 ≤ k → op_Right.j0 k true o.f0 o.f1 o.f2 o.f3 o.f4 = some false := by
    intro k hk
    obtain ⟨k, rfl⟩ : ∃ m, k = m + 1 := ⟨k - 1, by omega⟩
    rw [op_Right.j0, if_pos rfl]
  by_cases c1 : o.f1 < 0
  · exact ⟨false, o1, r, fun k hk => by unfold op_Right.f; rw [if_pos c1, ht k (by omega)], h1, h2, fun h => by simp at h⟩
  by_cases c2 : o.f1 > 4294967295
  · exact ⟨false, o1, r, fun k hk => by unfold op_Right.f; rw [if_neg c1, if_pos c2, ht k (by omega)], h1, h2, fun h => by simp at h⟩
  by_cases c3 : o.f4 < 0
  · exact ⟨false, o1, r, fun k hk => by unfold op_Right.f; rw [if_neg c1, if_neg c2, if_pos c3, ht k (by omega)], h1, h2, fun h => by simp at h⟩
  by_cases c4 : o.f4 > 4294967295
  · exact ⟨false, o1, r, fun k hk => by unfold op_Right.f; rw [if_neg c1, if_neg c2, if_neg c3, decide_eq_true c4, ht k (by omega)], h1, h2, fun h => by simp at h⟩
  refine ⟨_, o1, r, fun k hk => by unfold op_Right.f; rw [if_neg c1, if_neg c2, if_neg c3, decide_eq_false c4, hj k (by omega)], h1, h2, fun h => ?_⟩
  split at h
  · rename_i he
    split at h
    · rename_i hq
      obtain rfl := List.eq_nil_of_length_eq_zero (by omega : q.length = 0)
      exact ⟨h4, by rw [hw, h], he, h3⟩
    · simp at h
  · simp at h
/-- The bytes of operations, one behind the other. -/
def Seg : List S39 → List Int → List S39 → Prop
  | [], a, D => a = [] ∧ D = []
  | o :: l, a, D => ∃ r a1 o1 D1, a = r ++ a1 ∧ D = o1 :: D1 ∧ OneSeg o o1 r ∧ Seg l a1 D1
theorem dec_seg : ∀ (l : List S39) (a : List Int) (D : List S39), Seg l a D → ∀ (b : List Int) (k : Nat) (acc : List S39), 9 ≤ k → acc.length + l.length < 2000000000000 → op_Decode.l0 (k + l.length) (a ++ b) acc = op_Decode.l0 k b (acc ++ D)
  | [], a, D, h, b, k, acc, hk, ha => by
    obtain ⟨rfl, rfl⟩ := h
    simp
  | o :: l, a, D, h, b, k, acc, hk, ha => by
    obtain ⟨r, a1, o1, D1, rfl, rfl, h1, h2⟩ := h
    have hz := sz_in o.f0
    have hl := h1.len
    have h3 := one_app (b := a1 ++ b) (h1.one (k + l.length) (by omega)) h1.whole (by omega)
    rw [List.length_cons] at ha ⊢
    rw [← Nat.add_assoc, List.append_assoc, dec_step (by rw [List.length_append]; omega) h3 (by omega), List.nil_append, dec_seg l a1 D1 h2 b k _ hk (by simp; omega)]
    simp
def tot (l : List S39) : Int := (l.map (fun o => sz o.f0)).sum
theorem tot_cons (o : S39) (l : List S39) : tot (o :: l) = sz o.f0 + tot l := by simp [tot]
theorem seg_len : ∀ (l : List S39) (a : List Int) (D : List S39), Seg l a D → (a.length : Int) = tot l ∧ D.length = l.length
  | [], a, D, h => by obtain ⟨rfl, rfl⟩ := h; simp [tot]
  | o :: l, a, D, h => by
    obtain ⟨r, a1, o1, D1, rfl, rfl, h1, h2⟩ := h
    have := seg_len l a1 D1 h2
    have hl := h1.len
    rw [tot_cons, List.length_append, List.length_cons, List.length_cons]
    omega
theorem drop39 {l : List S39} {i : Nat} (h : i < l.length) : l.drop i = rd_T39 l (i : Int) :: l.drop (i + 1) := by
  rw [List.drop_eq_getElem_cons h]
  unfold rd_T39
  rw [Int.toNat_natCast, List.getD_eq_getElem?_getD, List.getElem?_eq_getElem h]
  rfl
theorem rd39_mem {l : List S39} {i : Nat} (h : i < l.length) : rd_T39 l (i : Int) ∈ l := by
  unfold rd_T39
  rw [Int.toNat_natCast, List.getD_eq_getElem?_getD, List.getElem?_eq_getElem h]
  exact List.getElem_mem h
theorem enc_loop (l : List S39) (hl : ∀ x ∈ l, WO x) (hn : l.length ≤ 300) : ∀ (n i : Nat), i + n = l.length →
    (∃ a D, Seg (l.drop i) a D ∧ ∀ k acc, n + 20 ≤ k → acc.length + 100 * n < 1000000000 → op_Encode.l0 k acc l (l.length : Int) (i : Int) = some (acc ++ a, 0)) ∨
    (∀ k acc, n + 20 ≤ k → acc.length + 100 * n < 1000000000 → op_Encode.l0 k acc l (l.length : Int) (i : Int) = some ([], 1)) := by
  intro n
  induction n with
  | zero =>
    intro i hi
    refine .inl ⟨[], [], ?_, fun k acc hk _ => ?_⟩
    · rw [List.drop_eq_nil_of_le (by omega)]
      exact ⟨rfl, rfl⟩
    · obtain ⟨k, rfl⟩ : ∃ m, k = m + 1 := ⟨k - 1, by omega⟩
      rw [op_Encode.l0, if_neg (by omega), List.append_nil]
  | succ n ih =>
    intro i hi
    have hw := hl _ (rd39_mem (l := l) (i := i) (by omega))
    obtain ⟨b, o1, r, h1, h2, hb, h3⟩ := right_total _ hw
    cases b with
    | false =>
      refine .inr fun k acc hk ha => ?_
      obtain ⟨k, rfl⟩ : ∃ m, k = m + 1 := ⟨k - 1, by omega⟩
      rw [op_Encode.l0, if_pos (by omega), if_pos (by omega), if_pos (by omega), h1 k (by omega), bs, if_neg (by simp)]
    | true =>
      have h4 := h3 rfl
      have hz := sz_in (rd_T39 l (i : Int)).f0
      have hln := h4.len
      have hst : ∀ k acc, n + 20 ≤ k → acc.length + 100 * (n + 1) < 1000000000 → op_Encode.l0 (k + 1) acc l (l.length : Int) (i : Int) = op_Encode.l0 k (acc ++ r) l (l.length : Int) ((i + 1 : Nat) : Int) := by
        intro k acc hk ha
        rw [op_Encode.l0, if_pos (by omega), if_pos (by omega), if_pos (by omega), h1 k (by omega), bs, if_pos rfl, h2 k (by omega), bs, if_pos (by omega), w64_id (by omega) (by omega)]
        rfl
      rcases ih (i + 1) (by omega) with ⟨a, D, hS, hE⟩ | hE
      · refine .inl ⟨r ++ a, o1 :: D, ?_, fun k acc hk ha => ?_⟩
        · rw [drop39 (by omega)]
          exact ⟨r, a, o1, D, rfl, rfl, h4, hS⟩
        · obtain ⟨k, rfl⟩ : ∃ m, k = m + 1 := ⟨k - 1, by omega⟩
          rw [hst k acc (by omega) ha, hE k _ (by omega) (by rw [List.length_append]; omega), List.append_assoc]
      · refine .inr fun k acc hk ha => ?_
        obtain ⟨k, rfl⟩ : ∃ m, k = m + 1 := ⟨k - 1, by omega⟩
        rw [hst k acc (by omega) ha, hE k _ (by omega) (by rw [List.length_append]; omega)]
/-- Operations are encoded, or refused. -/
theorem enc_ok (l : List S39) (hl : ∀ x ∈ l, WO x) (hn : l.length ≤ 300) :
    (∃ a D, Seg l a D ∧ ∀ k, 400 ≤ k → op_Encode.f k l = some (a, 0)) ∨ (∀ k, 400 ≤ k → op_Encode.f k l = some ([], 1)) := by
  rcases enc_loop l hl hn l.length 0 (by omega) with ⟨a, D, h1, h2⟩ | h
  · exact .inl ⟨a, D, h1, fun k hk => by unfold op_Encode.f; exact (h2 k [] (by omega) (by simp; omega))⟩
  · exact .inr fun k hk => by unfold op_Encode.f; exact (h k [] (by omega) (by simp; omega))
theorem WO.of {x : S39} (h : (Lit.int .i64 x.f0).wf = true ∧ (Lit.int .i64 x.f1).wf = true ∧ (Lit.int .u64 x.f2).wf = true ∧ (x.f3.length = 32 ∧ ∀ x_ ∈ x.f3, (Lit.int .u8 x_).wf = true) ∧ (Lit.int .i64 x.f4).wf = true) : WO x := ⟨h.2.2.2.1.1, BY.of_wf h.2.2.2.1.2⟩
/-! the same ones -/
theorem eqS_refl (x : S39) : eqS39 x x = true := by simp [eqS39, Ar.eqb]
def All2 : List S39 → List S39 → Prop
  | [], [] => True
  | x :: X, y :: Y => eqS39 x y = true ∧ All2 X Y
  | _, _ => False
theorem All2.refl : ∀ X, All2 X X
  | [] => trivial
  | x :: X => ⟨eqS_refl x, All2.refl X⟩
theorem seg_all2 (T : List S39) : ∀ (l : List S39) (a : List Int) (D : List S39), Seg l a D → All2 (D ++ T) (l ++ T)
  | [], a, D, h => by obtain ⟨rfl, rfl⟩ := h; exact All2.refl T
  | o :: l, a, D, h => by
    obtain ⟨r, a1, o1, D1, rfl, rfl, h1, h2⟩ := h
    exact ⟨h1.eq, seg_all2 T l a1 D1 h2⟩
theorem All2.len : ∀ (X Y : List S39), All2 X Y → X.length = Y.length
  | [], [], _ => rfl
  | x :: X, y :: Y, h => by rw [List.length_cons, List.length_cons, All2.len X Y h.2]
  | [], y :: Y, h => h.elim
  | x :: X, [], h => h.elim
theorem All2.at : ∀ (X Y : List S39), All2 X Y → ∀ i : Nat, i < X.length → eqS39 (rd_T39 X (i : Int)) (rd_T39 Y (i : Int)) = true
  | [], _, _, i, hi => by simp at hi
  | x :: X, y :: Y, h, 0, hi => h.1
  | x :: X, y :: Y, h, i + 1, hi => by
    have := All2.at X Y h.2 i (by simpa using hi)
    unfold rd_T39 at this ⊢
    rw [Int.toNat_natCast] at this ⊢
    simpa using this
  | x :: X, [], h, i, hi => h.elim
theorem rsame_loop (X Y : List S39) (h : All2 X Y) (hs : X.length < 1000000000) : ∀ (n i k : Nat), i + n = X.length → n + 1 ≤ k → drawlotref24_Same.l0 k X Y (i : Int) = some true := by
  have hl := All2.len X Y h
  intro n
  induction n with
  | zero =>
    intro i k hi hk
    obtain ⟨k, rfl⟩ : ∃ m, k = m + 1 := ⟨k - 1, by omega⟩
    rw [drawlotref24_Same.l0, if_neg (by omega)]
  | succ n ih =>
    intro i k hi hk
    obtain ⟨k, rfl⟩ : ∃ m, k = m + 1 := ⟨k - 1, by omega⟩
    rw [drawlotref24_Same.l0, if_pos (by omega), if_pos (by omega), if_pos (by omega), if_pos (All2.at X Y h i (by omega)), w64_id (by omega) (by omega), show (i : Int) + 1 = ((i + 1 : Nat) : Int) by omega, ih (i + 1) k (by omega) (by omega)]
theorem rsame_ok (X Y : List S39) (h : All2 X Y) (hs : X.length < 1000000000) (k : Nat) (hk : X.length + 1 ≤ k) : drawlotref24_Same.f k X Y = some true := by
  unfold drawlotref24_Same.f
  rw [if_pos (by rw [All2.len X Y h]), show (0 : Int) = ((0 : Nat) : Int) from rfl, rsame_loop X Y h hs X.length 0 k (by omega) hk]
end Go.Proofs.Ytkbpdnhbmceajaa.Lm
