/- Arrays of whole numbers, by value and as variables in memory: what one operation on them does, for the printed walks of this seat. No conditions. -/
import Derived.Test.YtgfkclgpphnjfaaDoorWMore
import Derived.Laws.Rows
import Derived.Laws.Tables
import Derived.Laws.StructEq
import Derived.ChangeKeysEq
import Derived.OpenShut
import Derived.ChangeShapes
import Derived.Laws.IdiomCopy
namespace Go.Proofs.YtgfkclgpphnjfaaDoor.Ar
open Go.RowKit Go.Proofs.YtgfkclgpphnjfaaDoorW.PrintWords

/-- A list as one of n numbers. -/
def fit (n : Nat) (l : List Int) : List Int := l.take n ++ List.replicate (n - l.length) 0
theorem fit_len (n : Nat) (l : List Int) : (fit n l).length = n := by simp [fit]; omega
def cells (k : IntKind) (n : Nat) (l : List Int) : Array Value := (nums k (fit n l)).toArray
abbrev val (k : IntKind) (n : Nat) (l : List Int) : Value := .agg (cells k n l)
def get (n : Nat) (l : List Int) (j : Int) : Int := rd (fit n l) j
def set (n : Nat) (l : List Int) (j v : Int) : List Int := (fit n l).set j.toNat v
def eqb (n : Nat) (a b : List Int) : Bool := fit n a == fit n b
theorem cells_at {k : IntKind} {n : Nat} {l : List Int} {j : Int} (h0 : 0 ≤ j) (h1 : j < n) : (cells k n l)[j.toNat]? = some (.int k (get n l j)) := by
  have hl : j.toNat < (fit n l).length := by rw [fit_len]; omega
  simp [cells, nums, get, rd, List.getD, List.getElem?_eq_getElem hl]
theorem cells_eq (k : IntKind) (n : Nat) (l : List Int) : cells k n l = ((List.range n).map fun i : Nat => Value.int k (get n l i)).toArray := by
  unfold cells
  congr 1
  apply List.ext_getElem
  · simp [nums, fit_len]
  · intro i h1 h2
    have h3 : i < (fit n l).length := by simpa [nums] using h1
    simp [nums, get, rd, List.getD, List.getElem?_eq_getElem h3]
section
variable {P : Program} {ops : Array Oper} {rest : List Oper} {o : Oper} {a : Act} {Q : Exit → Act → World → Prop} {W : World}

section
variable {Kc : Act → World → Prop}
end

/-- '==' and '!='. -/
theorem all_range (n : Nat) : ∀ (xs ys : List Int), xs.length = n → ys.length = n → ((List.range n).all fun i => xs.getD i 0 == ys.getD i 0) = (xs == ys) := by
  induction n with
  | zero => intro xs ys hx hy; rw [List.length_eq_zero_iff.1 hx, List.length_eq_zero_iff.1 hy]; rfl
  | succ n ih =>
    intro xs ys hx hy
    rcases xs with _ | ⟨x, xs⟩
    · simp at hx
    rcases ys with _ | ⟨y, ys⟩
    · simp at hy
    have := ih xs ys (by simpa using hx) (by simpa using hy)
    rw [List.range_succ_eq_map, List.all_cons, List.all_map]
    simp only [List.getD_cons_zero, Function.comp_def, List.getD_cons_succ, this]
    simp [List.cons_beq_cons]
theorem run_eq (d : Nat) (T E : TypeId) {n : Nat} (hT : P.underlying T = some (.array n E)) (hE : (P.info? E).map (·.size) = some 1) {k : IntKind} (hk : P.underlying E = some (.int k)) (x y : List Int) (W : World) :
    (Op.equalIn (d + 2) T (val k n x) (val k n y)).run P W = .ok (eqb n x y) W := by
  obtain ⟨ie, hie, hsz⟩ := Option.map_eq_some_iff.1 hE
  have hs : ∀ W, (sizeOf E).run P W = .ok 1 W := fun W => by simp [sizeOf, typeInfo, hie, hsz]
  unfold eqb
  rw [← all_range n _ _ (fit_len n x) (fit_len n y), List.range_eq_range', val, val, Op.equalIn]
  simp only [Sem.run_bind, run_underlying hT, Result.andThen_ok, hs, Std.Legacy.Range.forIn_eq_forIn_range', Std.Legacy.Range.size, Nat.sub_zero, Nat.add_sub_cancel, Nat.div_one]
  have hl : ∀ i ∈ List.range' 0 n 1, i < n := fun i hi => by simpa using (List.mem_range'_1.1 hi).2
  generalize List.range' 0 n 1 = l at hl ⊢
  have hu : ∀ W, (isAgg E).run P W = .ok false W := fun W => by simp [isAgg, run_underlying hk]
  have hp : ∀ (z : List Int) (i : Nat), i < n → (part E (cells k n z) (i * 1)).run P W = .ok (.int k ((fit n z).getD i 0)) W := fun z i hi => by
    have hc := cells_at (k := k) (n := n) (l := z) (j := (i : Int)) (by omega) (by omega)
    simp only [Int.toNat_natCast, get, rd] at hc
    simp only [part, Sem.run_bind, hu, Result.andThen_ok, Nat.mul_one]
    simp [hc]
  induction l with
  | nil => simp
  | cons i l ih =>
    have hi : i < n := hl i (by simp)
    have pe : (Op.equalIn (d + 1) E (.int k ((fit n x).getD i 0)) (.int k ((fit n y).getD i 0))).run P W = .ok ((fit n x).getD i 0 == (fit n y).getD i 0) W := by
      rw [run_equalIn_int W d E k k _ _ hk]
    simp only [List.forIn_cons, Sem.run_bind, hp x i hi, hp y i hi, pe, Result.andThen_ok, List.all_cons]
    cases hb : ((fit n x).getD i 0 == (fit n y).getD i 0)
    · simp
    · simp only [Bool.not_true, Bool.false_eq_true, if_false, Sem.run_pure, Result.andThen_ok, Bool.true_and]
      exact ih fun j hj => hl j (by simp [hj])
end
/-! copy from one array variable into another -/
def part (m : Nat) (l : List Int) (o c : Nat) : List Int := ((fit m l).drop o).take c
def putAll (n : Nat) : List Int → Nat → List Int → List Int
  | l, _, [] => l
  | l, o, v :: r => putAll n (set n l (o : Int) v) (o + 1) r
section
variable {P : Program} {o : Oper} {ρ : Operand → Value} {W : World}
end

section
variable {P : Program} {ops : Array Oper} {rest : List Oper} {o : Oper} {a : Act} {Q : Exit → Act → World → Prop} {Kc : Act → World → Prop} {W : World}
end

/-! a cut of an array variable, as an array again -/
section
variable {P : Program} {ops : Array Oper} {rest : List Oper} {o : Oper} {a : Act} {Q : Exit → Act → World → Prop} {W : World}
theorem at_ (g i : Nat) : (⟨g, 0, none⟩ : Addr).add i = ⟨g, i, none⟩ := by unfold Addr.add; split <;> simp_all
end

/-! an array that came in -/
end Go.Proofs.YtgfkclgpphnjfaaDoor.Ar
