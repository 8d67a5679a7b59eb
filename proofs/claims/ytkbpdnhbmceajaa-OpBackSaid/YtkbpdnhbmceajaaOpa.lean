/- Arguments that came in, opened by their kind: arrays of whole numbers, structs of several fields. No conditions. -/
import Derived.Test.YtkbpdnhbmceajaaOpn
import Derived.Test.YtkbpdnhbmceajaaArs
namespace Go.Proofs.Ytkbpdnhbmceajaa.Opn
open Go.RowKit Go.Deep Go.ChangeShapes Go.WideShapes Go.Proofs.YtkbpdnhbmceajaaW.PrintWords

section
variable {H : Type} {enc : TypeId × Value → H} {P : Program} {w : World} {base : Nat} {spare : Nat → Bool} {held : Bool}
theorem opens_arr {t E : TypeId} {n : Nat} {k : IntKind} (hT : P.underlying t = some (.array n E)) (hk : P.underlying E = some (.int k)) (hc1 : P.cellsOf E = 1) (hcn : P.cellsOf t = n) :
    Opens enc P w base spare held (Ar.K k n) t (fun l => l.length = n ∧ ∀ x ∈ l, (Lit.int k x).wf = true) := fun fuel cs y h => by
  obtain ⟨xs, m, rfl, _, hlen, hxn, hall⟩ := DataW.trod_array hT h
  rw [hcn] at hlen
  have key : ∀ i, i < n → ∃ z, cs[i]? = some (.int k z) ∧ (Lit.int k z).wf = true := fun i hin => by
    have h := hall i hin
    rw [hc1, Nat.mul_one] at h
    obtain ⟨x, hx⟩ : ∃ x, xs[i]? = some x := ⟨_, List.getElem?_eq_getElem (by omega)⟩
    rw [hx] at h
    obtain ⟨z, hz, _, hw⟩ := DataW.trod_int hk h
    refine ⟨z, ?_, hw⟩
    have h2 := congrArg (·[0]?) hz
    simpa [List.getElem?_take, List.getElem?_drop] using h2
  refine ⟨cs.map Ar.intOf, ?_, by simpa using hlen, fun x hx => ?_⟩
  · show cs = (Ar.cells k n (cs.map Ar.intOf)).toList
    have e : Ar.fit n (cs.map Ar.intOf) = cs.map Ar.intOf := Ar.fit_id (by simpa using hlen)
    apply List.ext_getElem?
    intro i
    simp only [Ar.cells, e, nums, List.map_map, List.getElem?_map]
    by_cases hin : i < n
    · obtain ⟨z, hz, _⟩ := key i hin
      simp [hz, Ar.intOf]
    · rw [List.getElem?_eq_none (by omega)]; rfl
  · obtain ⟨v, hv, rfl⟩ := List.mem_map.1 hx
    obtain ⟨i, hin, he⟩ := List.mem_iff_getElem.1 hv
    obtain ⟨z, hz, hw⟩ := key i (by omega)
    have hvz : v = .int k z := by
      rw [List.getElem?_eq_getElem hin, he] at hz
      exact Option.some.inj hz
    rw [hvz]; exact hw
theorem opens_bool {t : TypeId} (ht : P.underlying t = some .bool) : Opens enc P w base spare held Kd.bool t (fun _ => True) := fun fuel cs y h => by
  obtain ⟨b, hb, _⟩ := DataW.trod_bool ht h
  exact ⟨b, hb, trivial⟩
/-- One field of a struct. -/
theorem field_ {n : Nat} {fs : Array Field} {cs : List Value} {ys : List (DataW H × List MemPlace)} (hf : ∀ (i : Nat) (f : Field), fs[i]? = some f → DataW.trod enc P w base spare held n f.type ((cs.drop f.offset).take (P.cellsOf f.type)) = ys[i]?) (hy : ys.length = fs.size)
    (i : Nat) (f : Field) (hi : fs[i]? = some f) {o m : Nat} (ho : f.offset = o) (hm : P.cellsOf f.type = m) : ∃ y, DataW.trod enc P w base spare held n f.type ((cs.drop o).take m) = some y := by
  subst ho
  subst hm
  rw [hf i f hi]
  exact ⟨_, List.getElem?_eq_getElem (by rw [hy]; exact (Array.getElem?_eq_some_iff.1 hi).1)⟩
theorem seg_ {α : Type} (cs : List α) {o m : Nat} : cs.drop o = (cs.drop o).take m ++ cs.drop (o + m) := by
  conv => lhs; rw [← List.take_append_drop m (cs.drop o)]
  rw [List.drop_drop]
end
end Go.Proofs.Ytkbpdnhbmceajaa.Opn
