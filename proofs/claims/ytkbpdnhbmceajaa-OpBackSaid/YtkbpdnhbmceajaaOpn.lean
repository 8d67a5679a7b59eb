/- Arguments that came in, opened by their kind: slices of any elements, structs of two whole numbers. No conditions. -/
import Derived.Test.YtkbpdnhbmceajaaWMore
import Derived.Deep.Fields
import Derived.Lib.SmallJoins
namespace Go.Proofs.Ytkbpdnhbmceajaa.Opn
open Go.RowKit Go.Deep Go.ChangeShapes Go.WideShapes Go.Proofs.YtkbpdnhbmceajaaW.PrintWords

section
variable {H : Type} {enc : TypeId × Value → H} {P : Program} {w : World} {base : Nat} {spare : Nat → Bool} {held : Bool}
/-- What a value of type t (its cells) is told as, and what is known of it. -/
def Opens (enc : TypeId × Value → H) (P : Program) (w : World) (base : Nat) (spare : Nat → Bool) (held : Bool) {α : Type} (d : Kd α) (t : TypeId) (wf : α → Prop) : Prop :=
  ∀ (fuel : Nat) (cs : List Value) (y : DataW H × List MemPlace), DataW.trod enc P w base spare held fuel t cs = some y → ∃ x, d.K w x cs ∧ wf x
theorem opens_int {k : IntKind} {t : TypeId} (ht : P.underlying t = some (.int k)) : Opens enc P w base spare held (Kd.int k) t (fun z => (Lit.int k z).wf = true) := fun fuel cs y h => by
  obtain ⟨z, hz, _, hw⟩ := DataW.trod_int ht h
  exact ⟨z, hz, hw⟩
theorem open_row {α : Type} {d : Kd α} {wf : α → Prop} {t e : TypeId} (ht : P.underlying t = some (.slice e)) (hsz : P.cellsOf e = d.sz) (hel : Opens enc P w base spare held d e wf) {fuel : Nat} {cs : List Value} {y : DataW H × List MemPlace}
    (h : DataW.trod enc P w base spare held fuel t cs = some y) : ∃ (A : Option Addr) (c : Nat) (xs : List α), cs = [.slice A xs.length c] ∧ Kd.C d w A xs.length xs ∧ xs.length ≤ c ∧ (xs.length ≤ maxLen ∧ ∀ x ∈ xs, wf x) := by
  rcases open_slice ht h with ⟨h0, _⟩ | ⟨a, len, cap, m, n, D, Pl, hcs, _, hl, hm, hmm, _, hi⟩
  · exact ⟨none, 0, [], h0, ⟨rfl, by simp, fun hn => by simp at hn⟩, Nat.le_refl _, by unfold maxLen; simp, fun x hx => by cases hx⟩
  · have hlm : len ≤ m := by rw [hmm]; split <;> omega
    have hx : ∀ i : Fin len, ∃ x, (∃ cs', w.cells? base (a.add (i.1 * P.cellsOf e)) (P.cellsOf e) = some cs' ∧ d.K w x cs') ∧ wf x := fun i => by
      obtain ⟨cs', hc, ht'⟩ := hi i.1 (by have := i.2; omega)
      obtain ⟨x, hk, hw⟩ := hel _ _ _ ht'
      exact ⟨x, ⟨cs', hc, hk⟩, hw⟩
    refine ⟨some a, cap, List.ofFn fun i : Fin len => Classical.choose (hx i), ?_, ⟨rfl, ?_, fun _ => ⟨a, rfl, fun j p hj => ?_⟩⟩, ?_, ?_, fun x hxm => ?_⟩
    · rw [List.length_ofFn]; exact hcs
    · rw [List.length_ofFn]; unfold maxLen at hm; omega
    · obtain ⟨hjl, hp⟩ := List.getElem?_eq_some_iff.1 hj
      rw [List.length_ofFn] at hjl
      rw [List.getElem_ofFn] at hp
      subst hp
      obtain ⟨⟨cs', hc, hk⟩, _⟩ := Classical.choose_spec (hx ⟨j, hjl⟩)
      obtain ⟨_, hcl, hat⟩ := World.cells?_some hc
      refine ⟨cs', d.K_len hk, hk, fun i u hu => ?_⟩
      have hil : i < P.cellsOf e := by rw [← hcl]; exact (List.getElem?_eq_some_iff.1 hu).1
      have := hat i hil
      rw [Go.Deep.add_add, hsz] at this
      rw [this]; exact hu
    · rw [List.length_ofFn]; exact hl
    · rw [List.length_ofFn]; omega
    · obtain ⟨i, hil, he⟩ := List.mem_iff_getElem.1 hxm
      rw [List.getElem_ofFn] at he
      subst he
      exact (Classical.choose_spec (hx _)).2
end
end Go.Proofs.Ytkbpdnhbmceajaa.Opn
