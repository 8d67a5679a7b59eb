/- An element of an array that is a field of a struct's variable, read at a place that is told: what one operation does, for the walks of this seat. No conditions. -/
import Derived.Test.YtkbpdnhbmceajaaCel
namespace Go.Proofs.Ytkbpdnhbmceajaa.Ar
open Go.RowKit Go.Proofs.YtkbpdnhbmceajaaW.PrintWords

section
variable {P : Program} {ops : Array Oper} {rest : List Oper} {o : Oper} {a : Act} {Q : Exit → Act → World → Prop} {W : World}
theorem fidx_event (hgd : o.guard = none) {D : Tmp} (_hd : o.dst = some D) {T E : TypeId} {n : Nat} {x i : Operand} (ho : o.op = .indexAddr T x i) (hT : P.underlying T = some (.array n E)) (hE : (P.info? E).map (·.size) = some 1)
    {g c : Nat} (hx : a.eval x = .pointer (some ⟨g, c, none⟩)) {ki : IntKind} {j : Int} (hi : a.eval i = .int ki j) (h0 : 0 ≤ j) (h1 : j < n)
    (h : wpList P ops Q rest (a.put o.dst (.pointer (some ⟨g, c + j.toNat, none⟩))) W) : wpList P ops Q (o :: rest) a W := by
  refine Kd.event_run hgd ?_ h
  obtain ⟨ie, hie, hsz⟩ := Option.map_eq_some_iff.1 hE
  have ha : Program.arrayLen P T = n := by simp [Program.arrayLen, hT]
  have he : Program.elem P T = E := by simp [Program.elem, hT]
  have hs : (sizeOf E).run P W = .ok 1 W := by simp [sizeOf, typeInfo, hie, hsz]
  have hr := run_indexAt_array (P := P) W T ⟨g, c, none⟩ ki j (by rw [ha, he]; exact hT)
  rw [ha, he, if_pos ⟨h0, h1⟩, hs] at hr
  have hadd : (⟨g, c, none⟩ : Addr).add (j.toNat * 1) = ⟨g, c + j.toNat, none⟩ := by
    rw [Nat.mul_one]; unfold Addr.add; split <;> simp_all
  unfold execOp
  simp only [ho, hx, hi, Sem.run_bind, hr, Result.andThen_ok, hadd]
  rfl
theorem fcell_run {g T c n : Nat} {k : IntKind} {l : List Int} {C : Array Value} (hb : W.heap[g]? = some (.cells C T (0, 0)))
    (hin : ∀ (j : Nat) (v : Value), (cells k n l).toList[j]? = some v → C.toList[c + j]? = some v) {j : Int} (h0 : 0 ≤ j) (h1 : j < n) : W.cell? ⟨g, c + j.toNat, none⟩ = some (.int k (get n l j)) := by
  refine blk_at hb (hin _ _ ?_)
  rw [Array.getElem?_toList]
  exact cells_at h0 h1
end
end Go.Proofs.Ytkbpdnhbmceajaa.Ar
