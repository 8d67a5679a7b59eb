/- Numbers written as limbs of 32 bits, the lowest first: their value, and the one way to write a value without a leading zero. No conditions. -/
import Derived.Test.YtgfkclgpphnjfaaDoorLmBase
namespace Go.Proofs.YtgfkclgpphnjfaaDoor.Lm
open Go.RowKit Go.Proofs.YtgfkclgpphnjfaaDoorW.PrintWords

/-- The value of limbs. -/
def vl : List Int → Int
  | [] => 0
  | x :: l => x + 4294967296 * vl l
def Lim (l : List Int) : Prop := ∀ x ∈ l, 0 ≤ x ∧ x < 4294967296
/-- Limbs without a zero at the top. -/
def Can (l : List Int) : Prop := Lim l ∧ ∀ n : Nat, l.length = n + 1 → rd l (n : Int) ≠ 0
def nlN (n : Nat) : List Int := if n = 0 then [] else ((n % 4294967296 : Nat) : Int) :: nlN (n / 4294967296)
termination_by n
decreasing_by exact Nat.div_lt_self (by omega) (by decide)
/-- The limbs of a value. -/
def nl (a : Int) : List Int := nlN a.toNat

theorem rd_cons_zero (x : Int) (l : List Int) : rd (x :: l) ((0 : Nat) : Int) = x := by rw [rd_nat]; rfl
theorem rd_cons_succ (x : Int) (l : List Int) (n : Nat) : rd (x :: l) ((n + 1 : Nat) : Int) = rd l (n : Int) := by rw [rd_nat, rd_nat]; rfl
theorem rd_out {l : List Int} {n : Nat} (h : l.length ≤ n) : rd l (n : Int) = 0 := by rw [rd_nat, List.getD_eq_getElem?_getD, List.getElem?_eq_none h]; rfl
theorem Lim.nil : Lim [] := fun _ h => nomatch h
theorem Lim.cons {x : Int} {l : List Int} (h : 0 ≤ x ∧ x < 4294967296) (hl : Lim l) : Lim (x :: l) := by
  intro y hy
  rcases List.mem_cons.1 hy with e | e
  · exact e ▸ h
  · exact hl y e
theorem Lim.tail {x : Int} {l : List Int} (h : Lim (x :: l)) : Lim l := fun y hy => h y (List.mem_cons_of_mem _ hy)
theorem Lim.head {x : Int} {l : List Int} (h : Lim (x :: l)) : 0 ≤ x ∧ x < 4294967296 := h x (List.mem_cons_self)
theorem Lim.take {l : List Int} (h : Lim l) (n : Nat) : Lim (l.take n) := fun x hx => h x (List.mem_of_mem_take hx)
theorem Lim.drop {l : List Int} (h : Lim l) (n : Nat) : Lim (l.drop n) := fun x hx => h x (List.mem_of_mem_drop hx)
theorem Lim.append {a b : List Int} (ha : Lim a) (hb : Lim b) : Lim (a ++ b) := fun x hx => (List.mem_append.1 hx).elim (ha x) (hb x)
theorem Lim.set {l : List Int} (h : Lim l) (n : Nat) {y : Int} (hy : 0 ≤ y ∧ y < 4294967296) : Lim (l.set n y) := fun x hx => by
  rcases List.mem_or_eq_of_mem_set hx with e | e
  · exact h x e
  · exact e ▸ hy
theorem Lim.zeros (n : Nat) : Lim (List.replicate n 0) := fun x hx => by have := List.eq_of_mem_replicate hx; omega
theorem Lim.rd {l : List Int} (h : Lim l) (n : Nat) : 0 ≤ rd l (n : Int) ∧ rd l (n : Int) < 4294967296 := by
  rw [rd_nat, List.getD_eq_getElem?_getD]
  by_cases hi : n < l.length
  · rw [List.getElem?_eq_getElem hi]; exact h _ (List.getElem_mem hi)
  · rw [List.getElem?_eq_none (by omega)]; simp
theorem Bpos (n : Nat) : (0 : Int) < 4294967296 ^ n := Int.pow_pos (by decide)
theorem Bsucc (n : Nat) : (4294967296 : Int) ^ (n + 1) = 4294967296 * 4294967296 ^ n := by rw [Int.pow_succ, Int.mul_comm]
theorem vl_nonneg {l : List Int} (h : Lim l) : 0 ≤ vl l := by
  induction l with
  | nil => exact Int.le_refl 0
  | cons x l ih => have := ih h.tail; have := h.head; simp only [vl]; omega
theorem vl_lt {l : List Int} (h : Lim l) : vl l < 4294967296 ^ l.length := by
  induction l with
  | nil => simp [vl]
  | cons x l ih => have := ih h.tail; have := h.head; simp only [vl, List.length_cons, Bsucc]; omega
theorem vl_append (a b : List Int) : vl (a ++ b) = vl a + 4294967296 ^ a.length * vl b := by
  induction a with
  | nil => simp [vl]
  | cons x l ih => simp only [List.cons_append, vl, ih, List.length_cons, Bsucc]; grind
theorem vl_zeros (n : Nat) : vl (List.replicate n 0) = 0 := by
  induction n with
  | zero => rfl
  | succ n ih => simp only [List.replicate_succ, vl, ih]; rfl
theorem vl_take_succ (l : List Int) (n : Nat) : vl (l.take (n + 1)) = vl (l.take n) + 4294967296 ^ n * rd l (n : Int) := by
  by_cases h : n < l.length
  · rw [take_step h, vl_append, List.length_take, Nat.min_eq_left (by omega)]; simp [vl]
  · rw [rd_out (by omega), List.take_of_length_le (by omega), List.take_of_length_le (by omega)]; simp
theorem vl_split (l : List Int) (n : Nat) : vl l = vl (l.take n) + 4294967296 ^ n * vl (l.drop n) := by
  by_cases h : n ≤ l.length
  · have := vl_append (l.take n) (l.drop n)
    rw [List.take_append_drop, List.length_take, Nat.min_eq_left h] at this
    exact this
  · rw [List.take_of_length_le (by omega), List.drop_eq_nil_of_le (by omega)]; simp [vl]
theorem vl_drop (l : List Int) (n : Nat) : vl (l.drop n) = rd l (n : Int) + 4294967296 * vl (l.drop (n + 1)) := by
  by_cases h : n < l.length
  · rw [drop_step h]; rfl
  · rw [rd_out (by omega), List.drop_eq_nil_of_le (by omega), List.drop_eq_nil_of_le (by omega)]; rfl
theorem rd_set_self {l : List Int} {n : Nat} (h : n < l.length) (y : Int) : rd (l.set n y) (n : Int) = y := by
  rw [rd_nat, List.getD_eq_getElem?_getD, List.getElem?_set_self h]; rfl
theorem rd_set_ne (l : List Int) {n m : Nat} (h : n ≠ m) (y : Int) : rd (l.set n y) (m : Int) = rd l (m : Int) := by
  rw [rd_nat, rd_nat, List.getD_eq_getElem?_getD, List.getD_eq_getElem?_getD, List.getElem?_set_ne h]
theorem rd_zeros (n m : Nat) : rd (List.replicate n 0) (m : Int) = 0 := by
  rw [rd_nat, List.getD_eq_getElem?_getD, List.getElem?_replicate]; split <;> rfl
theorem vl_set : ∀ {l : List Int} {n : Nat} (_ : n < l.length) (y : Int), vl (l.set n y) = vl l + 4294967296 ^ n * (y - rd l (n : Int)) := by
  intro l
  induction l with
  | nil => intro n h; exact absurd h (by simp)
  | cons x l ih =>
    intro n h y
    cases n with
    | zero => rw [rd_cons_zero]; simp only [List.set_cons_zero, vl]; omega
    | succ n =>
      rw [rd_cons_succ]
      simp only [List.set_cons_succ, vl, ih (show n < l.length by simpa using h) y, Bsucc]; grind
theorem Can.tail {x : Int} {l : List Int} (h : Can (x :: l)) : Can l := ⟨h.1.tail, fun n hn => by have := h.2 (n + 1) (by simp [hn]); rwa [rd_cons_succ] at this⟩
theorem Can.nil : Can [] := ⟨Lim.nil, fun _ h => nomatch h⟩
theorem vl_ge : ∀ (n : Nat) {l : List Int}, Can l → l.length = n + 1 → 4294967296 ^ n ≤ vl l := by
  intro n
  induction n with
  | zero =>
    intro l h hn
    match l, h, hn with
    | [x], h, _ =>
      have a := h.2 0 rfl
      rw [rd_cons_zero] at a
      have := h.1.head
      simp only [vl, Int.pow_zero]; omega
  | succ n ih =>
    intro l h hn
    match l, h, hn with
    | x :: t, h, hn =>
      have a := ih h.tail (by simpa using hn)
      have := h.1.head
      rw [Bsucc]
      simp only [vl]; omega
theorem nlN_zero : nlN 0 = [] := by rw [nlN]; rfl
theorem nl_zero : nl 0 = [] := nlN_zero
theorem vl_nlN (n : Nat) : vl (nlN n) = n := by
  induction n using Nat.strongRecOn with
  | _ n ih =>
    rw [nlN]
    by_cases h : n = 0
    · rw [if_pos h, h]; rfl
    · rw [if_neg h]
      simp only [vl, ih (n / 4294967296) (Nat.div_lt_self (by omega) (by decide))]; omega
theorem Lim_nlN (n : Nat) : Lim (nlN n) := by
  induction n using Nat.strongRecOn with
  | _ n ih =>
    rw [nlN]
    by_cases h : n = 0
    · rw [if_pos h]; exact Lim.nil
    · rw [if_neg h]; exact Lim.cons (by omega) (ih (n / 4294967296) (Nat.div_lt_self (by omega) (by decide)))
theorem Can_nlN (n : Nat) : Can (nlN n) := by
  refine ⟨Lim_nlN n, ?_⟩
  induction n using Nat.strongRecOn with
  | _ n ih =>
    intro m hm
    rw [nlN] at hm ⊢
    by_cases h : n = 0
    · rw [if_pos h] at hm; exact absurd hm (by simp)
    · rw [if_neg h] at hm ⊢
      have i := ih (n / 4294967296) (Nat.div_lt_self (by omega) (by decide))
      cases m with
      | zero =>
        rw [rd_cons_zero]
        have e : nlN (n / 4294967296) = [] := List.eq_nil_of_length_eq_zero (by simpa using hm)
        have v := vl_nlN (n / 4294967296)
        rw [e] at v
        have v : (0 : Int) = ((n / 4294967296 : Nat) : Int) := v
        omega
      | succ m => rw [rd_cons_succ]; exact i m (by simpa using hm)
theorem nlN_vl {l : List Int} (h : Can l) : nlN (vl l).toNat = l := by
  induction l with
  | nil => exact nlN_zero
  | cons x t ih =>
    have i := ih h.tail
    have p := vl_ge t.length h rfl
    have q := Bpos t.length
    have hx := h.1.head
    have ht := vl_nonneg h.1.tail
    rw [nlN, if_neg (by omega)]
    simp only [vl] at p ⊢
    have e1 : (x + 4294967296 * vl t).toNat / 4294967296 = (vl t).toNat := by omega
    have e2 : (((x + 4294967296 * vl t).toNat % 4294967296 : Nat) : Int) = x := by omega
    rw [e1, e2, i]
theorem vl_nl {a : Int} (h : 0 ≤ a) : vl (nl a) = a := by unfold nl; rw [vl_nlN]; omega
theorem Can_nl (a : Int) : Can (nl a) := Can_nlN _
theorem Lim_nl (a : Int) : Lim (nl a) := (Can_nl a).1
theorem nl_vl {l : List Int} (h : Can l) : nl (vl l) = l := nlN_vl h
theorem nl_of {l : List Int} (h : Can l) {a : Int} (e : vl l = a) : nl a = l := e ▸ nl_vl h
theorem Bmono {n m : Nat} (h : n ≤ m) : (4294967296 : Int) ^ n ≤ 4294967296 ^ m := by
  obtain ⟨d, rfl⟩ := Nat.exists_eq_add_of_le h
  rw [Int.pow_add]
  have := Int.mul_le_mul_of_nonneg_left (Bpos d) (Int.le_of_lt (Bpos n))
  omega
theorem nl_len {a : Int} {n : Nat} (h0 : 0 ≤ a) (h1 : a < 4294967296 ^ n) : (nl a).length ≤ n := by
  rcases Nat.lt_or_ge n (nl a).length with g | g
  · have p := vl_ge ((nl a).length - 1) (Can_nl a) (by omega)
    rw [vl_nl h0] at p
    have := Bmono (show n ≤ (nl a).length - 1 by omega)
    omega
  · exact g
theorem nl_lt {a : Int} (h0 : 0 ≤ a) : a < 4294967296 ^ (nl a).length := by have := vl_lt (Lim_nl a); rwa [vl_nl h0] at this
theorem nl_len_mono {a b : Int} (h0 : 0 ≤ b) (h : b ≤ a) : (nl b).length ≤ (nl a).length := nl_len h0 (by have := nl_lt (Int.le_trans h0 h); omega)
theorem nl_one : nl 1 = [1] := nl_of ⟨Lim.cons (by omega) Lim.nil, fun n hn => by have : n = 0 := by simpa using hn.symm
                                                                                  subst this; rw [rd_cons_zero]; decide⟩ (by rfl)
end Go.Proofs.YtgfkclgpphnjfaaDoor.Lm
