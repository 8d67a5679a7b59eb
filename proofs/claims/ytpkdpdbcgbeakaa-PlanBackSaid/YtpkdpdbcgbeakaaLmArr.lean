/- Plain lemmas on arrays of whole numbers told as lists: an element behind a store, of a part, of what is laid over. No conditions. -/
import Derived.Test.YtpkdpdbcgbeakaaAr
import Derived.Test.YtpkdpdbcgbeakaaLmBase
namespace Go.Proofs.Ytpkdpdbcgbeakaa.Lm
open Go.RowKit Go.Proofs.YtpkdpdbcgbeakaaW.PrintWords

theorem rd_getD (l : List Int) (j : Int) : rd l j = l.getD j.toNat 0 := rfl
theorem get_set {n : Nat} {l : List Int} {i j v : Int} (h0 : 0 ≤ i) (h1 : i < n) (hj : 0 ≤ j) : Ar.get n (Ar.set n l i v) j = if j = i then v else Ar.get n l j := by
  have hl : (Ar.fit n l).length = n := Ar.fit_len n l
  have e : Ar.fit n (Ar.set n l i v) = Ar.set n l i v := Ar.fit_id (by simp [Ar.set, Ar.fit_len])
  unfold Ar.get
  rw [e]
  unfold Ar.set
  rw [rd_getD, rd_getD, List.getD_eq_getElem?_getD, List.getD_eq_getElem?_getD]
  by_cases h : j = i
  · subst h
    rw [if_pos rfl, List.getElem?_set_self (by omega)]
    rfl
  · rw [if_neg h, List.getElem?_set_ne (by omega)]
theorem get_zero (n : Nat) (j : Int) : Ar.get n (List.replicate n 0) j = 0 := by
  unfold Ar.get
  rw [Ar.fit_id (by simp), rd_getD, List.getD_eq_getElem?_getD]
  by_cases h : j.toNat < n
  · rw [List.getElem?_replicate_of_lt h]; rfl
  · rw [List.getElem?_eq_none (by simp; omega)]; rfl
theorem get_out {n : Nat} (l : List Int) {j : Int} (h : (n : Int) ≤ j) : Ar.get n l j = 0 := by
  unfold Ar.get
  rw [rd_getD, List.getD_eq_getElem?_getD, List.getElem?_eq_none (by rw [Ar.fit_len]; omega)]
  rfl
theorem eqb_of {n : Nat} {a b : List Int} (h : ∀ j : Int, 0 ≤ j → j < n → Ar.get n a j = Ar.get n b j) : Ar.eqb n a b = true := by
  unfold Ar.eqb
  rw [beq_iff_eq]
  refine ext_rd (by rw [Ar.fit_len, Ar.fit_len]) fun i hi => ?_
  rw [Ar.fit_len] at hi
  exact h i (by omega) (by omega)
theorem eqb_self (n : Nat) (a : List Int) : Ar.eqb n a a = true := by unfold Ar.eqb; exact beq_self_eq_true _
theorem part4 {m o : Nat} (l : List Int) (h : o + 4 ≤ m) : Ar.part m l o 4 = [Ar.get m l o, Ar.get m l (o + 1), Ar.get m l (o + 2), Ar.get m l (o + 3)] := by
  have hl : (Ar.fit m l).length = m := Ar.fit_len m l
  unfold Ar.part Ar.get
  rw [drop_step (n := o) (by omega), drop_step (n := o + 1) (by omega), drop_step (n := o + 2) (by omega), drop_step (n := o + 3) (by omega)]
  simp only [List.take_succ_cons, List.take_zero]
  rfl
/-- All elements lie in a range that has 0. -/
def InR (n : Nat) (b : Int) (l : List Int) : Prop := ∀ j, 0 ≤ Ar.get n l j ∧ Ar.get n l j < b
theorem get_neg {n : Nat} (l : List Int) {j : Int} (h : j ≤ 0) : Ar.get n l j = Ar.get n l 0 := by
  unfold Ar.get
  rw [rd_getD, rd_getD, show j.toNat = (0 : Int).toNat by omega]
theorem InR.zero (n : Nat) {b : Int} (hb : 0 < b) : InR n b (List.replicate n 0) := fun j => by rw [get_zero]; omega
theorem InR.of_mem {n : Nat} {b : Int} {l : List Int} (hb : 0 < b) (hl : l.length = n) (h : ∀ x ∈ l, 0 ≤ x ∧ x < b) : InR n b l := fun j => by
  unfold Ar.get
  rw [Ar.fit_id hl, rd_getD, List.getD_eq_getElem?_getD]
  by_cases hj : j.toNat < l.length
  · rw [List.getElem?_eq_getElem hj]; exact h _ (List.getElem_mem hj)
  · rw [List.getElem?_eq_none (by omega)]; exact ⟨Int.le_refl _, hb⟩
theorem InR.set {n : Nat} {b : Int} {l : List Int} {i v : Int} (h : InR n b l) (h0 : 0 ≤ i) (h1 : i < n) (hv : 0 ≤ v ∧ v < b) : InR n b (Ar.set n l i v) := fun j => by
  by_cases hj : 0 ≤ j
  · rw [get_set h0 h1 hj]
    split
    · exact hv
    · exact h j
  · rw [get_neg _ (by omega), get_set h0 h1 (by omega)]
    split
    · exact hv
    · exact h 0
theorem get_putAll {n : Nat} : ∀ (vs l : List Int) (o : Nat) (j : Int), 0 ≤ j → o + vs.length ≤ n → Ar.get n (Ar.putAll n l o vs) j = if (o : Int) ≤ j ∧ j < o + vs.length then rd vs (j - o) else Ar.get n l j
  | [], l, o, j, _, _ => by
    rw [if_neg (by simp only [List.length_nil]; omega)]
    rfl
  | v :: r, l, o, j, hj, hn => by
    simp only [List.length_cons] at hn ⊢
    rw [Ar.putAll, get_putAll r _ (o + 1) j hj (by omega), get_set (by omega) (by omega) hj]
    by_cases h1 : ((o + 1 : Nat) : Int) ≤ j ∧ j < ((o + 1 : Nat) : Int) + (r.length : Int)
    · rw [if_pos h1, if_pos (by omega)]
      rw [rd_getD, rd_getD, show (j - (o : Int)).toNat = (j - ((o + 1 : Nat) : Int)).toNat + 1 by omega]
      rfl
    · rw [if_neg h1]
      by_cases h2 : j = o
      · subst h2
        rw [if_pos rfl, if_pos (by omega), rd_getD, show ((o : Int) - (o : Int)).toNat = 0 by omega]
        rfl
      · rw [if_neg h2, if_neg (by omega)]
theorem InR.putAll {n : Nat} {b : Int} {l vs : List Int} {o : Nat} (h : InR n b l) (hn : o + vs.length ≤ n) (hv : ∀ x ∈ vs, 0 ≤ x ∧ x < b) : InR n b (Ar.putAll n l o vs) := by
  have key : ∀ j : Int, 0 ≤ j → 0 ≤ Ar.get n (Ar.putAll n l o vs) j ∧ Ar.get n (Ar.putAll n l o vs) j < b := fun j hj => by
    rw [get_putAll vs l o j hj hn]
    split
    · rename_i hc
      obtain ⟨hlt, e⟩ := rd_lt (l := vs) (i := j - o) (by omega) (by omega)
      rw [e]
      exact hv _ (List.getElem_mem _)
    · exact h j
  intro j
  by_cases hj : 0 ≤ j
  · exact key j hj
  · rw [get_neg _ (by omega)]; exact key 0 (by omega)
end Go.Proofs.Ytpkdpdbcgbeakaa.Lm
