/- Plain lemmas on bytes and the operations that they are: which of these are right, and that their bytes are those bytes. No conditions. -/
import Derived.Test.YtkbpdnhbmceajaaLmOpG
namespace Go.Proofs.Ytkbpdnhbmceajaa.Lm
open Go.RowKit Go.Proofs.Ytkbpdnhbmceajaa.PQ Go.Proofs.YtkbpdnhbmceajaaW.PrintWords Go.Proofs.YtkbpdnhbmceajaaW.PrintLast Go.Proofs.YtkbpdnhbmceajaaW.PrintMore
set_option linter.unusedVariables false
set_option linter.unusedSimpArgs false

def p4 (b : List Int) : Int := ((rd b 0 * 256 + rd b 1) * 256 + rd b 2) * 256 + rd b 3
def p8 (b : List Int) : Int := ((((((rd b 0 * 256 + rd b 1) * 256 + rd b 2) * 256 + rd b 3) * 256 + rd b 4) * 256 + rd b 5) * 256 + rd b 6) * 256 + rd b 7
/-- A field out of its bytes. -/
def upd (x : Fld) (b : List Int) (o : S39) : S39 :=
  match x with
  | .h => { o with f3 := b }
  | .a => { o with f2 := p8 b }
  | .w => { o with f1 := p4 b }
  | .n => { o with f4 := p4 b }
theorem p4_in {b : List Int} (hb : BY b) (hl : b.length = 4) : 0 ≤ p4 b ∧ p4 b < 4294967296 := by
  obtain ⟨b0, b1, b2, b3, rfl⟩ := len4 hl
  have h0 := hb b0 (by simp)
  have h1 := hb b1 (by simp)
  have h2 := hb b2 (by simp)
  have h3 := hb b3 (by simp)
  show 0 ≤ ((b0 * 256 + b1) * 256 + b2) * 256 + b3 ∧ ((b0 * 256 + b1) * 256 + b2) * 256 + b3 < 4294967296
  omega
theorem b4_p4 {b : List Int} (hb : BY b) (hl : b.length = 4) : b4 (p4 b) = b := by
  obtain ⟨b0, b1, b2, b3, rfl⟩ := len4 hl
  have h0 := hb b0 (by simp)
  have h1 := hb b1 (by simp)
  have h2 := hb b2 (by simp)
  have h3 := hb b3 (by simp)
  have e : p4 [b0, b1, b2, b3] = ((b0 * 256 + b1) * 256 + b2) * 256 + b3 := rfl
  rw [e]
  simp only [b4, List.cons.injEq, and_true]
  refine ⟨?_, ?_, ?_, ?_⟩ <;> omega
theorem p8_in {b : List Int} (hb : BY b) (hl : b.length = 8) : 0 ≤ p8 b ∧ p8 b < 18446744073709551616 := by
  obtain ⟨b0, b1, b2, b3, b4, b5, b6, b7, rfl⟩ := len8 hl
  have h0 := hb b0 (by simp)
  have h1 := hb b1 (by simp)
  have h2 := hb b2 (by simp)
  have h3 := hb b3 (by simp)
  have h4 := hb b4 (by simp)
  have h5 := hb b5 (by simp)
  have h6 := hb b6 (by simp)
  have h7 := hb b7 (by simp)
  have e : p8 [b0, b1, b2, b3, b4, b5, b6, b7] = (((((((b0 * 256 + b1) * 256 + b2) * 256 + b3) * 256 + b4) * 256 + b5) * 256 + b6) * 256 + b7) := rfl
  rw [e]
  omega
theorem b8_p8 {b : List Int} (hb : BY b) (hl : b.length = 8) : b8 (p8 b) = b := by
  obtain ⟨b0, b1, b2, b3, b4, b5, b6, b7, rfl⟩ := len8 hl
  have h0 := hb b0 (by simp)
  have h1 := hb b1 (by simp)
  have h2 := hb b2 (by simp)
  have h3 := hb b3 (by simp)
  have h4 := hb b4 (by simp)
  have h5 := hb b5 (by simp)
  have h6 := hb b6 (by simp)
  have h7 := hb b7 (by simp)
  have e : p8 [b0, b1, b2, b3, b4, b5, b6, b7] = (((((((b0 * 256 + b1) * 256 + b2) * 256 + b3) * 256 + b4) * 256 + b5) * 256 + b6) * 256 + b7) := rfl
  rw [e]
  simp only [b8, List.cons.injEq, and_true]
  refine ⟨?_, ?_, ?_, ?_, ?_, ?_, ?_, ?_⟩ <;> omega
theorem take_upd (x : Fld) (o : S39) (b : List Int) (hb : BY b) (hl : b.length = x.size) (k : Nat) (hk : 9 ≤ k) : takeF k x o b = some (upd x b o) := by
  cases x with
  | h => rfl
  | a =>
    show (word_Get64.f k b).bind (fun z => some ({ o with f2 := z } : S39)) = _
    have e : word_Get64.f k b = some (p8 b) := by
      obtain ⟨b0, b1, b2, b3, b4, b5, b6, b7, rfl⟩ := len8 hl
      exact get64_ok k hk _ _ _ _ _ _ _ _ hb
    rw [e, bs]
    rfl
  | w =>
    show (word_Get32.f k b).bind (fun z => if 0 ≤ z ∧ z < 4294967296 then some ({ o with f1 := z } : S39) else none) = _
    have e : word_Get32.f k b = some (p4 b) := by
      obtain ⟨b0, b1, b2, b3, rfl⟩ := len4 hl
      exact get32_ok k (by omega) _ _ _ _ hb
    rw [e, bs, if_pos (p4_in hb hl)]
    rfl
  | n =>
    show (word_Get32.f k b).bind (fun z => if 0 ≤ z ∧ z < 4294967296 then some ({ o with f4 := z } : S39) else none) = _
    have e : word_Get32.f k b = some (p4 b) := by
      obtain ⟨b0, b1, b2, b3, rfl⟩ := len4 hl
      exact get32_ok k (by omega) _ _ _ _ hb
    rw [e, bs, if_pos (p4_in hb hl)]
    rfl
theorem put_upd (x : Fld) (o : S39) (b : List Int) (hb : BY b) (hl : b.length = x.size) : putB x (upd x b o) = b := by
  cases x with
  | h => rfl
  | a => exact b8_p8 hb hl
  | w =>
    show b4 (IntKind.u32.wrap (p4 b)) = b
    rw [wraps_u32 _ (p4_in hb hl).1 (p4_in hb hl).2, b4_p4 hb hl]
  | n =>
    show b4 (IntKind.u32.wrap (p4 b)) = b
    rw [wraps_u32 _ (p4_in hb hl).1 (p4_in hb hl).2, b4_p4 hb hl]
theorem put_other (x y : Fld) (h : eqF x y = false) (o : S39) (b : List Int) : putB x (upd y b o) = putB x o := by
  cases x <;> cases y <;> first | rfl | simp [eqF] at h
theorem set_upd (x : Fld) (o o' : S39) (b : List Int) : setF x o' (upd x b o) = upd x b o' := by cases x <;> rfl
theorem set_other (x y : Fld) (h : eqF x y = false) (o o' : S39) (b : List Int) : setF x o' (upd y b o) = setF x o' o := by
  cases x <;> cases y <;> first | rfl | simp [eqF] at h
theorem upd_f0 (x : Fld) (o : S39) (b : List Int) : (upd x b o).f0 = o.f0 := by cases x <;> rfl
theorem upd_WF (x : Fld) (o : S39) (b : List Int) (hb : BY b) (hl : b.length = x.size) (h : WF o) (hr : InR o) : WF (upd x b o) ∧ InR (upd x b o) := by
  cases x with
  | h => exact ⟨⟨⟨hl, hb⟩, h.n0, h.n1, h.n2, h.n4⟩, hr⟩
  | a => exact ⟨⟨⟨h.wo.l, h.wo.b⟩, h.n0, h.n1, p8_in hb hl, h.n4⟩, hr⟩
  | w =>
    have hp := p4_in hb hl
    exact ⟨⟨⟨h.wo.l, h.wo.b⟩, h.n0, ⟨by show -9223372036854775808 ≤ p4 b; omega, by show p4 b < _; omega⟩, h.n2, h.n4⟩, hp, hr.2⟩
  | n =>
    have hp := p4_in hb hl
    exact ⟨⟨⟨h.wo.l, h.wo.b⟩, h.n0, h.n1, h.n2, ⟨by show -9223372036854775808 ≤ p4 b; omega, by show p4 b < _; omega⟩⟩, hr.1, hp⟩
theorem opN_WF (c n : Int) (hc : -9223372036854775808 ≤ c ∧ c < 9223372036854775808) (hn : 0 ≤ n ∧ n < 4294967296) : WF (opN c n) ∧ InR (opN c n) := by
  refine ⟨⟨⟨by simp [opN], fun x hx => ?_⟩, hc, by show _ ≤ (0 : Int) ∧ (0 : Int) < _; omega, by show _ ≤ (0 : Int) ∧ (0 : Int) < _; omega, ?_⟩, by show _ ≤ (0 : Int) ∧ (0 : Int) < _; omega, hn⟩
  · have : x = 0 := (List.mem_replicate.mp hx).2
    omega
  · show _ ≤ n ∧ n < _
    omega
def Fits : List Fld → Prop
  | [] => True
  | [_] => True
  | [x, y] => eqF x y = false
  | _ => False
theorem flds_fits (c : Int) (h : (flds c).2 = true) : Fits (flds c).1 := by
  have hin := flds_in h
  rcases (show c = 1 ∨ c = 2 ∨ c = 3 ∨ c = 4 ∨ c = 5 ∨ c = 6 ∨ c = 7 ∨ c = 8 ∨ c = 9 ∨ c = 10 ∨ c = 11 by omega) with rfl | rfl | rfl | rfl | rfl | rfl | rfl | rfl | rfl | rfl | rfl <;> first | exact trivial | rfl
/-- What is taken out of bytes has these bytes. -/
theorem onel_bytes (L : List Fld) (hL : Fits L) (o' : S39) (h : WF o') (hr : InR o') (t : List Int) (hb : BY t) (ht : szs L ≤ (t.length : Int)) :
    ∃ o r, (∀ k, 9 ≤ k → op_one.l k L o' t = some (o, r)) ∧ t = cat L o ++ r ∧ fil L o' o = o ∧ o.f0 = o'.f0 ∧ WF o ∧ InR o := by
  match L, hL with
  | [], _ => exact ⟨o', t, fun _ _ => rfl, rfl, rfl, rfl, h, hr⟩
  | [x], _ =>
    have hz : szs [x] = x.size := by simp [szs]
    rw [hz] at ht
    have hl : (t.take x.size).length = x.size := by rw [List.length_take]; omega
    have hw := upd_WF x o' _ (hb.take x.size) hl h hr
    refine ⟨upd x (t.take x.size) o', t.drop x.size, fun k hk => ?_, ?_, ?_, upd_f0 _ _ _, hw.1, hw.2⟩
    · show (if x.size ≤ t.length then (takeF k x o' (t.take x.size)).bind (fun o1 => op_one.l k [] o1 (t.drop x.size)) else none) = _
      rw [if_pos (by omega), take_upd x o' _ (hb.take _) hl k hk, bs]
      rfl
    · rw [cat, cat, put_upd x o' _ (hb.take _) hl, List.append_nil, List.take_append_drop]
    · rw [fil, fil, set_upd]
  | [x, y], hxy =>
    have hz : szs [x, y] = x.size + y.size := by simp [szs]
    rw [hz] at ht
    have hl : (t.take x.size).length = x.size := by rw [List.length_take]; omega
    have hl2 : ((t.drop x.size).take y.size).length = y.size := by rw [List.length_take, List.length_drop]; omega
    have hw := upd_WF x o' _ (hb.take x.size) hl h hr
    have hw2 := upd_WF y _ _ ((hb.drop x.size).take y.size) hl2 hw.1 hw.2
    refine ⟨upd y ((t.drop x.size).take y.size) (upd x (t.take x.size) o'), (t.drop x.size).drop y.size, fun k hk => ?_, ?_, ?_, by rw [upd_f0, upd_f0], hw2.1, hw2.2⟩
    · show (if x.size ≤ t.length then (takeF k x o' (t.take x.size)).bind (fun o1 => if y.size ≤ (t.drop x.size).length then (takeF k y o1 ((t.drop x.size).take y.size)).bind (fun o2 => op_one.l k [] o2 ((t.drop x.size).drop y.size)) else none) else none) = _
      rw [if_pos (by omega), take_upd x o' _ (hb.take _) hl k hk, bs, if_pos (by rw [List.length_drop]; omega), take_upd y _ _ ((hb.drop _).take _) hl2 k hk, bs]
      rfl
    · rw [cat, cat, cat, put_other x y hxy, put_upd x o' _ (hb.take _) hl, put_upd y _ _ ((hb.drop _).take _) hl2, List.append_nil, List.append_assoc, List.take_append_drop, List.take_append_drop]
    · rw [fil, fil, fil, set_other x y hxy, set_upd, set_upd]
theorem rt_bad (c : Int) (h : (flds c).2 = true) : rt (opN 0 c) = false := by
  have hin := flds_in h
  have e : (opN 0 c).f4 = c := rfl
  have e0 : (opN 0 c).f0 = 0 := rfl
  unfold rt
  rw [e, e0, if_neg (by decide), h]
  simp
theorem byt_bad (c : Int) (h0 : 0 ≤ c) (h1 : c < 256) : byt (opN 0 c) = [c] := by
  have e : (opN 0 c).f4 = c := rfl
  have e0 : (opN 0 c).f0 = 0 := rfl
  unfold byt
  rw [e, e0, if_neg (by decide), show c % 256 = c by omega]
/-- One operation of bytes: whole, or cut off. -/
theorem one_struct (t : List Int) (hb : BY t) (ht : 0 < t.length) :
    (∃ o r, (∀ k, 9 ≤ k → op_one.g k t = some (o, r)) ∧ t = byt o ++ r ∧ 0 < (byt o).length ∧ rt o = true ∧ WF o) ∨
    (∃ c T, t = c :: T ∧ (flds c).2 = true ∧ 0 ≤ c ∧ c < 256 ∧ ∀ k, 9 ≤ k → op_one.g k t = some (opN 0 c, [])) := by
  match t, ht with
  | c :: T, _ =>
    have hc := hb c (by simp)
    have e0 : wrap64 (rd (c :: T) 0) = c := w64_id (by show -9223372036854775808 ≤ c; omega) (by show c < _; omega)
    by_cases hf : (flds c).2 = true
    · by_cases hs : 1 + szs (flds c).1 ≤ ((c :: T).length : Int)
      · refine .inl ?_
        have hin := flds_in hf
        have hw := opN_WF c 0 (by omega) (by decide)
        obtain ⟨o, r, h1, h2, h3, h4, h5, h6⟩ := onel_bytes (flds c).1 (flds_fits c hf) (opN c 0) hw.1 hw.2 T (fun x hx => hb x (List.mem_cons_of_mem _ hx)) (by rw [List.length_cons] at hs; omega)
        have h4 : o.f0 = c := h4
        have hB : byt o = c :: cat (flds c).1 o := by
          unfold byt
          rw [h4, if_pos hf, show c % 256 = c by omega]
        refine ⟨o, r, fun k hk => ?_, by rw [hB, List.cons_append, ← h2], by rw [hB]; simp, ?_, h5⟩
        · unfold op_one.g
          rw [if_pos (by simp), e0, if_pos hf, whole_t (by simp) (by rw [e0]; exact hf), e0, bs, if_pos (by simpa using hs)]
          exact h1 k hk
        · unfold rt
          rw [h4, if_pos hf, h3, eqS_refl, decide_eq_true h6]
          rfl
      · refine .inr ⟨c, T, rfl, hf, hc.1, hc.2, fun k hk => ?_⟩
        unfold op_one.g
        rw [if_pos (by simp), e0, if_pos hf, whole_t (by simp) (by rw [e0]; exact hf), e0, bs, if_neg (by simpa using hs)]
    · refine .inl ⟨opN 0 c, T, fun k hk => ?_, by rw [byt_bad c hc.1 hc.2]; rfl, by rw [byt_bad c hc.1 hc.2]; simp, ?_, (opN_WF 0 c (by decide) (by omega)).1⟩
      · unfold op_one.g
        rw [if_pos (by simp), e0, if_neg hf]
        rfl
      · have e : (opN 0 c).f4 = c := rfl
        have e0 : (opN 0 c).f0 = 0 := rfl
        unfold rt
        rw [e, e0, if_neg (by decide), eqS_refl, decide_eq_true (by omega), Bool.eq_false_iff.mpr hf]
        rfl
def bys : List S39 → List Int
  | [] => []
  | o :: l => byt o ++ bys l
theorem encF_ok : ∀ (l : List S39) (acc : List Int), (∀ o ∈ l, rt o = true) → encF acc l = (acc ++ bys l, 0)
  | [], acc, _ => by rw [encF, bys, List.append_nil]
  | o :: l, acc, h => by rw [encF, if_pos (h o (by simp)), encF_ok l _ (fun x hx => h x (List.mem_cons_of_mem _ hx)), bys, List.append_assoc]
/-- The operations of bytes: all right, or all but the last one, which is cut off. -/
theorem dec_struct : ∀ (n : Nat) (t : List Int), t.length ≤ n → BY t → ∃ D : List S39, (∀ k acc, n + 10 ≤ k → acc.length + t.length < 2000000000000 → op_Decode.l0 k t acc = some (acc ++ D)) ∧ D.length ≤ t.length ∧ (∀ o ∈ D, WF o) ∧
    (((∀ o ∈ D, rt o = true) ∧ t = bys D) ∨ ∃ D' c T, D = D' ++ [opN 0 c] ∧ (∀ o ∈ D', rt o = true) ∧ t = bys D' ++ c :: T ∧ (flds c).2 = true ∧ 0 ≤ c ∧ c < 256) := by
  intro n
  induction n with
  | zero =>
    intro t ht _
    obtain rfl := List.eq_nil_of_length_eq_zero (by omega : t.length = 0)
    refine ⟨[], fun k acc hk _ => ?_, by simp, by simp, .inl ⟨by simp, rfl⟩⟩
    obtain ⟨k, rfl⟩ : ∃ m, k = m + 1 := ⟨k - 1, by omega⟩
    rw [dec_nil, List.append_nil]
  | succ n ih =>
    intro t ht hb
    by_cases h0 : t.length = 0
    · obtain rfl := List.eq_nil_of_length_eq_zero h0
      refine ⟨[], fun k acc hk _ => ?_, by simp, by simp, .inl ⟨by simp, rfl⟩⟩
      obtain ⟨k, rfl⟩ : ∃ m, k = m + 1 := ⟨k - 1, by omega⟩
      rw [dec_nil, List.append_nil]
    rcases one_struct t hb (by omega) with ⟨o, r, h1, h2, h3, h4, h5⟩ | ⟨c, T, h1, h2, h3, h4, h5⟩
    · have hlen : t.length = (byt o).length + r.length := by rw [h2]; simp
      have hbr : BY r := fun x hx => hb x (by rw [h2]; exact List.mem_append_right _ hx)
      obtain ⟨D, hD, hl, hw, hS⟩ := ih r (by omega) hbr
      refine ⟨o :: D, fun k acc hk ha => ?_, by rw [List.length_cons]; omega, ?_, ?_⟩
      · obtain ⟨k, rfl⟩ : ∃ m, k = m + 1 := ⟨k - 1, by omega⟩
        rw [dec_step (by omega) (h1 k (by omega)) (by omega), hD k _ (by omega) (by simp; omega)]
        simp
      · intro x hx
        rcases List.mem_cons.mp hx with rfl | hx
        · exact h5
        · exact hw x hx
      · rcases hS with ⟨hr, he⟩ | ⟨D', c, T, e1, e2, e3, e4, e5⟩
        · refine .inl ⟨fun x hx => ?_, by rw [bys, ← he]; exact h2⟩
          rcases List.mem_cons.mp hx with rfl | hx
          · exact h4
          · exact hr x hx
        · refine .inr ⟨o :: D', c, T, by rw [e1]; rfl, fun x hx => ?_, by rw [bys, List.append_assoc, ← e3]; exact h2, e4, e5⟩
          rcases List.mem_cons.mp hx with rfl | hx
          · exact h4
          · exact e2 x hx
    · refine ⟨[opN 0 c], fun k acc hk ha => ?_, by simp; omega, ?_, .inr ⟨[], c, T, rfl, by simp, h1, h2, h3, h4⟩⟩
      · obtain ⟨k, rfl⟩ : ∃ m, k = m + 2 := ⟨k - 2, by omega⟩
        rw [dec_step (by omega) (h5 (k + 1) (by omega)) (by omega), dec_nil]
      · intro x hx
        obtain rfl : x = opN 0 c := by simpa using hx
        exact (opN_WF 0 c (by decide) (by omega)).1
end Go.Proofs.Ytkbpdnhbmceajaa.Lm
